/- Parts of the proof: VaC VaD VaE VaF VaG DoA. -/
import Derived.Test.YtinafodpgjbedaaGreatDoorPdh
import Derived.Deep.Cut
import Derived.Deep.CutBlock
import Derived.Recover
import Derived.Test.YtinafodpgjbedaaGreatDoorPda
import Derived.OwnWalk
import Derived.Test.YtinafodpgjbedaaGreatDoorPdd
set_option linter.all false
set_option maxRecDepth 100000
set_option maxHeartbeats 8000000
namespace Go.Proofs.YtinafodpgjbedaaGreatDoor
open Go.RowKit Fo
def VEnd (k : Int) (e : Ending) : Prop:=(k = 0 ∧ e = .returned (.tuple #[])) ∨ (k ≠ 0 ∧ e = (.panicked [{ v:=.iface 167 (.agg #[.int .i64 k]),recovered:=false }]))
theorem VEnd.bad {k : Int} (h : k ≠ 0) : VEnd k (.panicked [{ v:=.iface 167 (.agg #[.int .i64 k]),recovered:=false }]):=.inr ⟨h,rfl⟩
theorem VEnd.good : VEnd 0 (.returned (.tuple #[])):=.inl ⟨rfl,rfl⟩
def VCheck (S : Nat → Prop) (n : Nat) : Prop:=∀ (d : Nat) (w : World) (cs : List Value) (o : Ob),ObjAt S d w cs o → smallO d o → (∀ b,S b → b < w.heap.size) →
 Calls Tryz.prog 65 #[.agg cs.toArray,.int .i64 (25 - (n : Int))] w fun e w' => VEnd (checkB n o) e ∧ Below w.heap.size w w'
theorem vcheck_zero (S : Nat → Prop) : VCheck S 0:=by
 intro d w cs o h _ _
 obtain ⟨p1,c1,p2,c2,rfl⟩:=h.form2
 unfold objCells
 go_enter Tryz.func65,Tryz.ntmps65
 go_wp2_with (go_at_call 107;refine (vmust_no _ _).mono ?_;rintro e w9 ⟨rfl,h9⟩;obtain rfl:=h9.symm)
 exact ⟨rfl,VEnd.bad (by unfold checkB;decide),bel⟩
def usesP (o : Ob) : Bool:=let u:=usedV o.kind
 u.2.2.2.2.2 && (u.1 || o.n == 0) && (u.2.1 || o.g == 0) && (u.2.2.1 || o.s.isEmpty) && (u.2.2.2.1 || o.keys.isEmpty) && (u.2.2.2.2.1 || o.kids.isEmpty)
theorem usesP_eq (o : Ob) : usesP o = usesB o:=by
 unfold usesP usesB zeroB usedV
 by_cases h0 : o.kind = 0
 · simp [h0,Bool.and_assoc]
 by_cases h1 : o.kind = 1 ∨ o.kind = 2 ∨ o.kind = 3
 · simp [h0,h1,Bool.and_assoc]
 by_cases h4 : o.kind = 4 ∨ o.kind = 5
 · simp [h0,h1,h4,Bool.and_assoc]
 by_cases h6 : o.kind = 6
 · simp [h6,Bool.and_assoc]
 by_cases h7 : o.kind = 7
 · simp [h7,Bool.and_assoc]
 by_cases h8 : o.kind = 8
 · simp [h8,Bool.and_assoc]
 by_cases h9 : o.kind = 9
 · simp [h9,Bool.and_assoc]
 · simp [h0,h1,h4,h6,h7,h8,h9]
theorem short_eq (o : Ob) (h : usesB o = true) : shortV o.kind o.s.length = !decide (longB o.kind < o.s.length):=by
 rw [← usesP_eq] at h
 unfold usesP usedV at h
 unfold shortV longB
 by_cases h4 : o.kind = 4
 · simp [h4];rw [Bool.eq_iff_iff];simp
 by_cases h5 : o.kind = 5
 · simp [h5];rw [Bool.eq_iff_iff];simp
 by_cases h9 : o.kind = 9
 · simp [h9];rw [Bool.eq_iff_iff];simp
 have he : o.s = []:=by
   by_cases h0 : o.kind = 0
   · simp [h0] at h;exact h.1.1.2
   by_cases h1 : o.kind = 1 ∨ o.kind = 2 ∨ o.kind = 3
   · simp [h0,h1] at h;exact h.1.1.2
   by_cases h6 : o.kind = 6
   · simp [h6] at h;exact h.1.2
   by_cases h7 : o.kind = 7
   · simp [h7] at h;exact h.2
   by_cases h8 : o.kind = 8
   · simp [h8] at h;exact h.1.1
   · simp [h0,h1,h4,h5,h6,h7,h8,h9] at h
 simp [h4,h5,h9,he]
theorem chk_world {w w1 : World} {v0 v1 v2 v3 v4 v5 u0 u1 u2 u3 u4 : Value} {t t2 : TypeId} (hb1 : Below (w.alloc (.cells #[v0, v1, v2, v3, v4, v5] t)).heap.size (w.alloc (.cells #[v0, v1, v2, v3, v4, v5] t)) w1) :
   ∃ W3 B4,w1.alloc (.cells #[u0,u1,u2,u3,u4] t2) = W3 ∧ w1.heap.size = B4 ∧ w.heap.size < B4 ∧ B4 < W3.heap.size ∧ Below w.heap.size w W3 ∧
     W3.cell? ⟨w.heap.size,0,none⟩ = some v0 ∧ W3.cell? ⟨w.heap.size,1,none⟩ = some v1 ∧ W3.cell? ⟨w.heap.size,2,none⟩ = some v2 ∧ W3.cell? ⟨w.heap.size,3,none⟩ = some v3 ∧ W3.cell? ⟨w.heap.size,4,none⟩ = some v4 ∧ W3.cell? ⟨w.heap.size,5,none⟩ = some v5 ∧
     W3.cell? ⟨B4,0,none⟩ = some u0 ∧ W3.cell? ⟨B4,1,none⟩ = some u1 ∧ W3.cell? ⟨B4,2,none⟩ = some u2 ∧ W3.cell? ⟨B4,3,none⟩ = some u3 ∧ W3.cell? ⟨B4,4,none⟩ = some u4:=by
 have hz:=hb1.size
 simp at hz
 have k : ∀ o,(w1.alloc (.cells #[u0,u1,u2,u3,u4] t2)).cell? ⟨w.heap.size,o,none⟩ = (w.alloc (.cells #[v0,v1,v2,v3,v4,v5] t)).cell? ⟨w.heap.size,o,none⟩:=fun o =>
   (World.cell?_of_block (a:=⟨w.heap.size,o,none⟩) (Below.heap_alloc _ _ _ (show w.heap.size < w1.heap.size by omega))).trans (World.cell?_of_block (a:=⟨w.heap.size,o,none⟩) (hb1.block _ (by simp)))
 refine ⟨_,_,rfl,rfl,by omega,by simp,?_,?_⟩
 · exact ((show Below w.heap.size w (w.alloc _) from (Below.refl _ _).alloc (Nat.le_refl _) _).trans (hb1.mono (by simp))).alloc (by omega) _
 · refine ⟨?_,?_,?_,?_,?_,?_,?_,?_,?_,?_,?_⟩
   all_goals first | (rw [k];simp [World.cell?_alloc_at];done) | (simp [World.cell?_alloc_at];done)
theorem empty_no {s : L} (h : ¬ s = []) : s.isEmpty = false:=by
 cases s with
 | nil => exact absurd rfl h
 | cons => rfl
theorem empty_no2 {s : L} (h : ¬ s = []) : (s == []) = false:=by simpa using h
theorem used_no {K : Int} {a b c d e f : Bool} (h : usedV K = (a,b,c,d,e,f)) (h0 : ¬ K = 0) (h1 : ¬ K = 1) (h2 : ¬ K = 2) (h3 : ¬ K = 3) (h4 : ¬ K = 4) (h5 : ¬ K = 5) (h6 : ¬ K = 6) (h7 : ¬ K = 7) (h8 : ¬ K = 8) (h9 : ¬ K = 9) : f = false:=by
 unfold usedV at h
 rw [if_neg h0,if_neg (by simp [h1,h2,h3]),if_neg (by simp [h4,h5]),if_neg h6,if_neg h7,if_neg h8,if_neg h9] at h
 simp only [Prod.mk.injEq] at h
 exact h.2.2.2.2.2.symm
theorem used_keys {K : Int} {a b c d e f : Bool} (h : usedV K = (a,b,c,d,e,f)) : d = decide (K = 7 ∨ K = 9):=by
 unfold usedV at h
 by_cases h0 : K = 0
 · subst h0;simp at h;simp [← h.2.2.2.1]
 by_cases h1 : K = 1 ∨ K = 2 ∨ K = 3
 · rw [if_neg h0,if_pos h1] at h;simp only [Prod.mk.injEq] at h;rw [← h.2.2.2.1];symm;rw [decide_eq_false_iff_not];omega
 by_cases h4 : K = 4 ∨ K = 5
 · rw [if_neg h0,if_neg h1,if_pos h4] at h;simp only [Prod.mk.injEq] at h;rw [← h.2.2.2.1];symm;rw [decide_eq_false_iff_not];omega
 by_cases h6 : K = 6
 · subst h6;simp at h;simp [← h.2.2.2.1]
 by_cases h7 : K = 7
 · subst h7;simp at h;simp [← h.2.2.2.1]
 by_cases h8 : K = 8
 · subst h8;simp at h;simp [← h.2.2.2.1]
 by_cases h9 : K = 9
 · subst h9;simp at h;simp [← h.2.2.2.1]
 · rw [if_neg h0,if_neg h1,if_neg h4,if_neg h6,if_neg h7,if_neg h8,if_neg h9] at h
   simp only [Prod.mk.injEq] at h
   rw [← h.2.2.2.1];symm;rw [decide_eq_false_iff_not];omega
theorem chk_keep {w W W' : World} {B4 : Nat} {a0 a1 a2 a3 a4 a5 a6 : Value} (hl1 : w.heap.size < B4) (hl2 : B4 < W.heap.size) (hW : Below w.heap.size w W) (hb : Below W.heap.size W W')
   (q0 : W.cell? ⟨w.heap.size,0,none⟩ = some a0) (q1 : W.cell? ⟨w.heap.size,1,none⟩ = some a1) (q2 : W.cell? ⟨w.heap.size,2,none⟩ = some a2) (q3 : W.cell? ⟨w.heap.size,3,none⟩ = some a3) (q4 : W.cell? ⟨w.heap.size,4,none⟩ = some a4) (q5 : W.cell? ⟨w.heap.size,5,none⟩ = some a5) (v3 : W.cell? ⟨B4,3,none⟩ = some a6) :
   B4 < W'.heap.size ∧ Below w.heap.size w W' ∧ W'.cell? ⟨w.heap.size,0,none⟩ = some a0 ∧ W'.cell? ⟨w.heap.size,1,none⟩ = some a1 ∧ W'.cell? ⟨w.heap.size,2,none⟩ = some a2 ∧ W'.cell? ⟨w.heap.size,3,none⟩ = some a3 ∧ W'.cell? ⟨w.heap.size,4,none⟩ = some a4 ∧ W'.cell? ⟨w.heap.size,5,none⟩ = some a5 ∧ W'.cell? ⟨B4,3,none⟩ = some a6:=by
 have hz:=hb.size
 have k : ∀ b o,b < W.heap.size → W'.cell? ⟨b,o,none⟩ = W.cell? ⟨b,o,none⟩:=fun b o h => World.cell?_of_block (a:=⟨b,o,none⟩) (hb.block b h)
 exact ⟨by omega,hW.trans (hb.mono hW.size),(k _ _ (by omega)).trans q0,(k _ _ (by omega)).trans q1,(k _ _ (by omega)).trans q2,(k _ _ (by omega)).trans q3,(k _ _ (by omega)).trans q4,(k _ _ (by omega)).trans q5,(k _ _ hl2).trans v3⟩
theorem vcheck_step (S : Nat → Prop) (n : Nat) (hn : n < 24) (IH : VCheck S n) : VCheck S (n + 1):=by
 intro d w cs o hO hsm hS
 cases d with
 | zero => exact hO.elim
 | succ d =>
 obtain ⟨kv,dv,rfl,hK,hR0⟩:=hO
 have hR : RowAt S d w dv o.kids:=hR0
 clear hR0
 obtain ⟨m1,m2,m3,m4,m5⟩:=hsm
 have a1 : ∃ p c,kv = .slice p o.keys.length c:=by
   rcases hK with ⟨e,p,c,h⟩ | ⟨b,o,c,h,_⟩
   · exact ⟨_,_,by rw [e];exact h⟩
   · exact ⟨_,_,h⟩
 have a2 : ∃ p c,dv = .slice p o.kids.length c:=by
   rcases hR with ⟨e,p,c,h⟩ | ⟨b,o,c,h,_⟩
   · exact ⟨_,_,by rw [e];exact h⟩
   · exact ⟨_,_,h⟩
 obtain ⟨p1,c1,rfl⟩:=a1
 obtain ⟨p2,c2,rfl⟩:=a2
 have HFI:=Lh (fun W => vfits_in o.kind o.n o.g o.s p1 p2 o.keys.length c1 o.kids.length c2 W)
 rw [fits_eq] at HFI
 have HLO:=Lh (fun W => vshort_in o.kind o.n o.g o.s p1 p2 o.keys.length c1 o.kids.length c2 W)
 have HKN:=Lh (fun W => vkey_in o.s m3 W)
 have HKE:=Lh (fun W (hW : Below w.heap.size w W) h79 => vkeys_in S d o _ _ W (hK.kept (fun b h => hW.block b (hS b h))) (hR.kept (fun b h => hW.block b (hS b h))) (fun b h => Nat.lt_of_lt_of_le (hS b h) hW.size) m1 m4 h79)
 have HRW:=Lh (And.intro hR (And.intro m5 hS))
 obtain ⟨C,hC⟩ : ∃ C,checkB (n + 1) o = C:=⟨_,rfl⟩
 rw [hC]
 unfold checkB at hC
 have HSH:=Lh (short_eq o)
 have HUP:=Lh (usesP_eq o)
 obtain ⟨D,hD⟩ : ∃ D : Int,25 - ((n + 1 : Nat) : Int) = D:=⟨_,rfl⟩
 rw [hD]
 have hD1 : 1 ≤ D:=by omega
 have hD2 : D ≤ 24:=by omega
 have hDn : D + 1 = 25 - (n : Int):=by omega
 have hn23 : (n != 23) = !(D == 1):=by
   rw [Bool.eq_iff_iff];simp;omega
 rw [hn23] at hC
 have hNo : usesB o = false ∨ (D == 1 || o.kind != 9) = false → VEnd C (.panicked [{ v:=.iface 167 (.agg #[.int .i64 10]),recovered:=false }]):=by
   intro h
   have : C = 10:=by
     rw [← hC,if_pos]
     rcases h with h | h
     · simp [h]
     · simp at h;simp [h]
   rw [this];exact VEnd.bad (by decide)
 have hYes : usesB o = true → (D == 1 || o.kind != 9) = true → (if !fitsB o then 2 else if longB o.kind < o.s.length then 5 else if 8191 < o.kids.length then 6 else if !keysB o then 3 else firstBad (o.kids.map (checkB n))) = C:=by
   intro h1 h2
   have e : (!usesB o || o.kind == 9 && !(D == 1)) = false:=by
     rw [h1]
     cases h3 : (D == 1)
     · rw [h3] at h2;simp at h2 ⊢;exact h2
     · simp
   have hC2:=hC
   rw [e,if_neg (by decide)] at hC2
   exact hC2
 clear hC hn23 hD
 unfold usesP at HUP
 obtain ⟨K,hk0⟩ : ∃ K,o.kind = K:=⟨_,rfl⟩
 obtain ⟨nk,hnk⟩ : ∃ nk,o.kids.length = nk:=⟨_,rfl⟩
 obtain ⟨n2,hn2⟩ : ∃ n2,o.keys.length = n2:=⟨_,rfl⟩
 obtain ⟨N,hN0⟩ : ∃ N,o.n = N:=⟨_,rfl⟩
 obtain ⟨G,hG0⟩ : ∃ G,o.g = G:=⟨_,rfl⟩
 obtain ⟨s,hs0⟩ : ∃ s,o.s = s:=⟨_,rfl⟩
 have ke : o.keys.isEmpty = ((n2 : Int) == 0):=by rw [← hn2];cases o.keys <;> simp;omega
 have de : o.kids.isEmpty = ((nk : Int) == 0):=by rw [← hnk];cases o.kids <;> simp;omega
 have HUS:=Lh (fun W => used_in K W)
 obtain ⟨⟨un,ug,us,uk,ud,ok⟩,hT⟩ : ∃ u,usedV K = u:=⟨_,rfl⟩
 unfold objCells
 rw [ke,de,hk0,hN0,hG0,hs0,hT] at HUP
 rw [hk0,hN0,hG0,hs0,hn2,hnk]
 rw [hk0] at hNo hYes
 have hSN:=HSH.out
 rw [hk0,hs0] at hSN
 rw [hk0,hN0,hG0,hs0,hn2,hnk] at HFI HLO HKE
 rw [hs0] at HKN hYes
 rw [hnk] at hYes m2
 rw [hT] at HUS
 have HNo:=Lh (fun (h : (ok && (un || N == 0) && (ug || G == 0) && (us || s.isEmpty) && (uk || (n2 : Int) == 0) && (ud || (nk : Int) == 0) && (D == 1 || K != 9)) = false) => hNo ((Bool.and_eq_false_iff.1 h).imp_left (fun h => HUP.out.symm.trans h)))
 have HYes:=Lh (fun (h : (ok && (un || N == 0) && (ug || G == 0) && (us || s.isEmpty) && (uk || (n2 : Int) == 0) && (ud || (nk : Int) == 0) && (D == 1 || K != 9)) = true) => And.intro (HUP.out.symm.trans (Bool.and_eq_true_iff.1 h).1) (hYes (HUP.out.symm.trans (Bool.and_eq_true_iff.1 h).1) (Bool.and_eq_true_iff.1 h).2))
 have HT:=Lh hT
 have HSN:=Lh hSN
 have HNK:=Lh (And.intro hnk (And.intro hk0 hs0))
 have HDN:=Lh hDn
 have hLGb : longB K ≤ 1048576:=longB_le K
 have hd24 : decide (D ≤ 24) = true:=by simp;omega
 have hSS : ¬ s = [] ∨ s = []:=(Classical.em _).symm
 clear hT hNo hYes hSN ke de hK hR hS m1 m4 m5 m3 hk0 hnk hN0 hG0 hs0 hn2 hDn HSH HUP
 dsimp only [usedR] at HUS
 go_enter Tryz.func65,Tryz.ntmps65
 go_upto_region 3 with (first | (go_at_call 107;refine (vmust_yes _ _).mono ?_;rintro e w9 ⟨rfl,h9⟩;obtain rfl:=h9.symm) | (go_at_call 108;refine (HUS.out _).mono ?_;rintro e w1 ⟨rfl,hb1⟩;obtain ⟨hc1,hf1⟩:=bcell hb1;have hz1:=hb1.size;simp at hz1))
 obtain ⟨W3,B4,hW3,hB4,hl1,hl2,hBW,q0,q1,q2,q3,q4,q5,v0,v1,v2,v3,v4⟩:=chk_world (u0:=.bool un) (u1:=.bool ug) (u2:=.bool us) (u3:=.bool uk) (u4:=.bool ud) (t2:=169) hb1
 rw [hW3]
 simp only [hB4]
 have HBW:=Lh hBW
 clear hW3 hB4 hc1 hf1 hb1 HUS hz1
 go_cut [] from 11 (fun wc => wc = W3 ∧ Hid (usesB o = true ∧ (if !fitsB o then 2 else if longB K < s.length then 5 else if 8191 < nk then 6 else if !keysB o then 3 else firstBad (o.kids.map (checkB n))) = C))
 case first =>
   clear hBW HFI HLO HKN HKE HRW HSN HNK HDN
   by_cases h0 : K = 0
   · subst h0
     obtain ⟨rfl,rfl,rfl,rfl,rfl,rfl⟩ : un = false ∧ ug = false ∧ us = false ∧ uk = false ∧ ud = false ∧ ok = true:=by have:=HT.out;revert this;cases un <;> cases ug <;> cases us <;> cases uk <;> cases ud <;> cases ok <;> decide
     cases hN : (N == 0)
     · go_wp2_with (go_at_call 107;refine (vmust_no _ _).mono ?_;rintro e w9 ⟨rfl,h9⟩;obtain rfl:=h9.symm)
       exact ⟨rfl,HNo.out (by simp [hN]),HBW.out⟩
     ·
       cases hG : (G == 0)
       · go_wp2_with (go_at_call 107;refine (vmust_no _ _).mono ?_;rintro e w9 ⟨rfl,h9⟩;obtain rfl:=h9.symm)
         exact ⟨rfl,HNo.out (by simp [hN,hG]),HBW.out⟩
       ·
         rcases hSS with hs1 | hs1
         · have hS:=empty_no hs1
           have hs2:=empty_no2 hs1
           go_wp2_with (go_at_call 107;refine (vmust_no _ _).mono ?_;rintro e w9 ⟨rfl,h9⟩;obtain rfl:=h9.symm)
           exact ⟨rfl,HNo.out (by simp [hN,hG,hS]),HBW.out⟩
         · subst hs1
           cases hK : ((n2 : Int) == 0)
           · go_wp2_with (go_at_call 107;refine (vmust_no _ _).mono ?_;rintro e w9 ⟨rfl,h9⟩;obtain rfl:=h9.symm)
             exact ⟨rfl,HNo.out (by simp [hN,hG,hK]),HBW.out⟩
           ·
             cases hD : ((nk : Int) == 0)
             · go_wp2_with (go_at_call 107;refine (vmust_no _ _).mono ?_;rintro e w9 ⟨rfl,h9⟩;obtain rfl:=h9.symm)
               exact ⟨rfl,HNo.out (by simp [hN,hG,hK,hD]),HBW.out⟩
             ·
               cases hd1 : (D == 1)
               · go_wp2_with (go_at_call 107;refine (vmust_yes _ _).mono ?_;rintro e w9 ⟨rfl,h9⟩;obtain rfl:=h9.symm)
                 go_meet
                 exact ⟨rfl,HYes.out (by simp [hN,hG,hK,hD])⟩
               · go_wp2_with (go_at_call 107;refine (vmust_yes _ _).mono ?_;rintro e w9 ⟨rfl,h9⟩;obtain rfl:=h9.symm)
                 go_meet
                 exact ⟨rfl,HYes.out (by simp [hN,hG,hK,hD])⟩
   by_cases h1 : K = 1
   · subst h1
     obtain ⟨rfl,rfl,rfl,rfl,rfl,rfl⟩ : un = true ∧ ug = false ∧ us = false ∧ uk = false ∧ ud = false ∧ ok = true:=by have:=HT.out;revert this;cases un <;> cases ug <;> cases us <;> cases uk <;> cases ud <;> cases ok <;> decide
     cases hG : (G == 0)
     · go_wp2_with (go_at_call 107;refine (vmust_no _ _).mono ?_;rintro e w9 ⟨rfl,h9⟩;obtain rfl:=h9.symm)
       exact ⟨rfl,HNo.out (by simp [hG]),HBW.out⟩
     ·
       rcases hSS with hs1 | hs1
       · have hS:=empty_no hs1
         have hs2:=empty_no2 hs1
         go_wp2_with (go_at_call 107;refine (vmust_no _ _).mono ?_;rintro e w9 ⟨rfl,h9⟩;obtain rfl:=h9.symm)
         exact ⟨rfl,HNo.out (by simp [hG,hS]),HBW.out⟩
       · subst hs1
         cases hK : ((n2 : Int) == 0)
         · go_wp2_with (go_at_call 107;refine (vmust_no _ _).mono ?_;rintro e w9 ⟨rfl,h9⟩;obtain rfl:=h9.symm)
           exact ⟨rfl,HNo.out (by simp [hG,hK]),HBW.out⟩
         ·
           cases hD : ((nk : Int) == 0)
           · go_wp2_with (go_at_call 107;refine (vmust_no _ _).mono ?_;rintro e w9 ⟨rfl,h9⟩;obtain rfl:=h9.symm)
             exact ⟨rfl,HNo.out (by simp [hG,hK,hD]),HBW.out⟩
           ·
             cases hd1 : (D == 1)
             · go_wp2_with (go_at_call 107;refine (vmust_yes _ _).mono ?_;rintro e w9 ⟨rfl,h9⟩;obtain rfl:=h9.symm)
               go_meet
               exact ⟨rfl,HYes.out (by simp [hG,hK,hD])⟩
             · go_wp2_with (go_at_call 107;refine (vmust_yes _ _).mono ?_;rintro e w9 ⟨rfl,h9⟩;obtain rfl:=h9.symm)
               go_meet
               exact ⟨rfl,HYes.out (by simp [hG,hK,hD])⟩
   by_cases h2 : K = 2
   · subst h2
     obtain ⟨rfl,rfl,rfl,rfl,rfl,rfl⟩ : un = true ∧ ug = false ∧ us = false ∧ uk = false ∧ ud = false ∧ ok = true:=by have:=HT.out;revert this;cases un <;> cases ug <;> cases us <;> cases uk <;> cases ud <;> cases ok <;> decide
     cases hG : (G == 0)
     · go_wp2_with (go_at_call 107;refine (vmust_no _ _).mono ?_;rintro e w9 ⟨rfl,h9⟩;obtain rfl:=h9.symm)
       exact ⟨rfl,HNo.out (by simp [hG]),HBW.out⟩
     ·
       rcases hSS with hs1 | hs1
       · have hS:=empty_no hs1
         have hs2:=empty_no2 hs1
         go_wp2_with (go_at_call 107;refine (vmust_no _ _).mono ?_;rintro e w9 ⟨rfl,h9⟩;obtain rfl:=h9.symm)
         exact ⟨rfl,HNo.out (by simp [hG,hS]),HBW.out⟩
       · subst hs1
         cases hK : ((n2 : Int) == 0)
         · go_wp2_with (go_at_call 107;refine (vmust_no _ _).mono ?_;rintro e w9 ⟨rfl,h9⟩;obtain rfl:=h9.symm)
           exact ⟨rfl,HNo.out (by simp [hG,hK]),HBW.out⟩
         ·
           cases hD : ((nk : Int) == 0)
           · go_wp2_with (go_at_call 107;refine (vmust_no _ _).mono ?_;rintro e w9 ⟨rfl,h9⟩;obtain rfl:=h9.symm)
             exact ⟨rfl,HNo.out (by simp [hG,hK,hD]),HBW.out⟩
           ·
             cases hd1 : (D == 1)
             · go_wp2_with (go_at_call 107;refine (vmust_yes _ _).mono ?_;rintro e w9 ⟨rfl,h9⟩;obtain rfl:=h9.symm)
               go_meet
               exact ⟨rfl,HYes.out (by simp [hG,hK,hD])⟩
             · go_wp2_with (go_at_call 107;refine (vmust_yes _ _).mono ?_;rintro e w9 ⟨rfl,h9⟩;obtain rfl:=h9.symm)
               go_meet
               exact ⟨rfl,HYes.out (by simp [hG,hK,hD])⟩
   by_cases h3 : K = 3
   · subst h3
     obtain ⟨rfl,rfl,rfl,rfl,rfl,rfl⟩ : un = true ∧ ug = false ∧ us = false ∧ uk = false ∧ ud = false ∧ ok = true:=by have:=HT.out;revert this;cases un <;> cases ug <;> cases us <;> cases uk <;> cases ud <;> cases ok <;> decide
     cases hG : (G == 0)
     · go_wp2_with (go_at_call 107;refine (vmust_no _ _).mono ?_;rintro e w9 ⟨rfl,h9⟩;obtain rfl:=h9.symm)
       exact ⟨rfl,HNo.out (by simp [hG]),HBW.out⟩
     ·
       rcases hSS with hs1 | hs1
       · have hS:=empty_no hs1
         have hs2:=empty_no2 hs1
         go_wp2_with (go_at_call 107;refine (vmust_no _ _).mono ?_;rintro e w9 ⟨rfl,h9⟩;obtain rfl:=h9.symm)
         exact ⟨rfl,HNo.out (by simp [hG,hS]),HBW.out⟩
       · subst hs1
         cases hK : ((n2 : Int) == 0)
         · go_wp2_with (go_at_call 107;refine (vmust_no _ _).mono ?_;rintro e w9 ⟨rfl,h9⟩;obtain rfl:=h9.symm)
           exact ⟨rfl,HNo.out (by simp [hG,hK]),HBW.out⟩
         ·
           cases hD : ((nk : Int) == 0)
           · go_wp2_with (go_at_call 107;refine (vmust_no _ _).mono ?_;rintro e w9 ⟨rfl,h9⟩;obtain rfl:=h9.symm)
             exact ⟨rfl,HNo.out (by simp [hG,hK,hD]),HBW.out⟩
           ·
             cases hd1 : (D == 1)
             · go_wp2_with (go_at_call 107;refine (vmust_yes _ _).mono ?_;rintro e w9 ⟨rfl,h9⟩;obtain rfl:=h9.symm)
               go_meet
               exact ⟨rfl,HYes.out (by simp [hG,hK,hD])⟩
             · go_wp2_with (go_at_call 107;refine (vmust_yes _ _).mono ?_;rintro e w9 ⟨rfl,h9⟩;obtain rfl:=h9.symm)
               go_meet
               exact ⟨rfl,HYes.out (by simp [hG,hK,hD])⟩
   by_cases h4 : K = 4
   · subst h4
     obtain ⟨rfl,rfl,rfl,rfl,rfl,rfl⟩ : un = false ∧ ug = false ∧ us = true ∧ uk = false ∧ ud = false ∧ ok = true:=by have:=HT.out;revert this;cases un <;> cases ug <;> cases us <;> cases uk <;> cases ud <;> cases ok <;> decide
     cases hN : (N == 0)
     · go_wp2_with (go_at_call 107;refine (vmust_no _ _).mono ?_;rintro e w9 ⟨rfl,h9⟩;obtain rfl:=h9.symm)
       exact ⟨rfl,HNo.out (by simp [hN]),HBW.out⟩
     ·
       cases hG : (G == 0)
       · go_wp2_with (go_at_call 107;refine (vmust_no _ _).mono ?_;rintro e w9 ⟨rfl,h9⟩;obtain rfl:=h9.symm)
         exact ⟨rfl,HNo.out (by simp [hN,hG]),HBW.out⟩
       ·
         cases hK : ((n2 : Int) == 0)
         · go_wp2_with (go_at_call 107;refine (vmust_no _ _).mono ?_;rintro e w9 ⟨rfl,h9⟩;obtain rfl:=h9.symm)
           exact ⟨rfl,HNo.out (by simp [hN,hG,hK]),HBW.out⟩
         ·
           cases hD : ((nk : Int) == 0)
           · go_wp2_with (go_at_call 107;refine (vmust_no _ _).mono ?_;rintro e w9 ⟨rfl,h9⟩;obtain rfl:=h9.symm)
             exact ⟨rfl,HNo.out (by simp [hN,hG,hK,hD]),HBW.out⟩
           ·
             cases hd1 : (D == 1)
             · go_wp2_with (go_at_call 107;refine (vmust_yes _ _).mono ?_;rintro e w9 ⟨rfl,h9⟩;obtain rfl:=h9.symm)
               go_meet
               exact ⟨rfl,HYes.out (by simp [hN,hG,hK,hD])⟩
             · go_wp2_with (go_at_call 107;refine (vmust_yes _ _).mono ?_;rintro e w9 ⟨rfl,h9⟩;obtain rfl:=h9.symm)
               go_meet
               exact ⟨rfl,HYes.out (by simp [hN,hG,hK,hD])⟩
   by_cases h5 : K = 5
   · subst h5
     obtain ⟨rfl,rfl,rfl,rfl,rfl,rfl⟩ : un = false ∧ ug = false ∧ us = true ∧ uk = false ∧ ud = false ∧ ok = true:=by have:=HT.out;revert this;cases un <;> cases ug <;> cases us <;> cases uk <;> cases ud <;> cases ok <;> decide
     cases hN : (N == 0)
     · go_wp2_with (go_at_call 107;refine (vmust_no _ _).mono ?_;rintro e w9 ⟨rfl,h9⟩;obtain rfl:=h9.symm)
       exact ⟨rfl,HNo.out (by simp [hN]),HBW.out⟩
     ·
       cases hG : (G == 0)
       · go_wp2_with (go_at_call 107;refine (vmust_no _ _).mono ?_;rintro e w9 ⟨rfl,h9⟩;obtain rfl:=h9.symm)
         exact ⟨rfl,HNo.out (by simp [hN,hG]),HBW.out⟩
       ·
         cases hK : ((n2 : Int) == 0)
         · go_wp2_with (go_at_call 107;refine (vmust_no _ _).mono ?_;rintro e w9 ⟨rfl,h9⟩;obtain rfl:=h9.symm)
           exact ⟨rfl,HNo.out (by simp [hN,hG,hK]),HBW.out⟩
         ·
           cases hD : ((nk : Int) == 0)
           · go_wp2_with (go_at_call 107;refine (vmust_no _ _).mono ?_;rintro e w9 ⟨rfl,h9⟩;obtain rfl:=h9.symm)
             exact ⟨rfl,HNo.out (by simp [hN,hG,hK,hD]),HBW.out⟩
           ·
             cases hd1 : (D == 1)
             · go_wp2_with (go_at_call 107;refine (vmust_yes _ _).mono ?_;rintro e w9 ⟨rfl,h9⟩;obtain rfl:=h9.symm)
               go_meet
               exact ⟨rfl,HYes.out (by simp [hN,hG,hK,hD])⟩
             · go_wp2_with (go_at_call 107;refine (vmust_yes _ _).mono ?_;rintro e w9 ⟨rfl,h9⟩;obtain rfl:=h9.symm)
               go_meet
               exact ⟨rfl,HYes.out (by simp [hN,hG,hK,hD])⟩
   by_cases h6 : K = 6
   · subst h6
     obtain ⟨rfl,rfl,rfl,rfl,rfl,rfl⟩ : un = false ∧ ug = false ∧ us = false ∧ uk = false ∧ ud = true ∧ ok = true:=by have:=HT.out;revert this;cases un <;> cases ug <;> cases us <;> cases uk <;> cases ud <;> cases ok <;> decide
     cases hN : (N == 0)
     · go_wp2_with (go_at_call 107;refine (vmust_no _ _).mono ?_;rintro e w9 ⟨rfl,h9⟩;obtain rfl:=h9.symm)
       exact ⟨rfl,HNo.out (by simp [hN]),HBW.out⟩
     ·
       cases hG : (G == 0)
       · go_wp2_with (go_at_call 107;refine (vmust_no _ _).mono ?_;rintro e w9 ⟨rfl,h9⟩;obtain rfl:=h9.symm)
         exact ⟨rfl,HNo.out (by simp [hN,hG]),HBW.out⟩
       ·
         rcases hSS with hs1 | hs1
         · have hS:=empty_no hs1
           have hs2:=empty_no2 hs1
           go_wp2_with (go_at_call 107;refine (vmust_no _ _).mono ?_;rintro e w9 ⟨rfl,h9⟩;obtain rfl:=h9.symm)
           exact ⟨rfl,HNo.out (by simp [hN,hG,hS]),HBW.out⟩
         · subst hs1
           cases hK : ((n2 : Int) == 0)
           · go_wp2_with (go_at_call 107;refine (vmust_no _ _).mono ?_;rintro e w9 ⟨rfl,h9⟩;obtain rfl:=h9.symm)
             exact ⟨rfl,HNo.out (by simp [hN,hG,hK]),HBW.out⟩
           ·
             cases hd1 : (D == 1)
             · go_wp2_with (go_at_call 107;refine (vmust_yes _ _).mono ?_;rintro e w9 ⟨rfl,h9⟩;obtain rfl:=h9.symm)
               go_meet
               exact ⟨rfl,HYes.out (by simp [hN,hG,hK])⟩
             · go_wp2_with (go_at_call 107;refine (vmust_yes _ _).mono ?_;rintro e w9 ⟨rfl,h9⟩;obtain rfl:=h9.symm)
               go_meet
               exact ⟨rfl,HYes.out (by simp [hN,hG,hK])⟩
   by_cases h7 : K = 7
   · subst h7
     obtain ⟨rfl,rfl,rfl,rfl,rfl,rfl⟩ : un = false ∧ ug = false ∧ us = false ∧ uk = true ∧ ud = true ∧ ok = true:=by have:=HT.out;revert this;cases un <;> cases ug <;> cases us <;> cases uk <;> cases ud <;> cases ok <;> decide
     cases hN : (N == 0)
     · go_wp2_with (go_at_call 107;refine (vmust_no _ _).mono ?_;rintro e w9 ⟨rfl,h9⟩;obtain rfl:=h9.symm)
       exact ⟨rfl,HNo.out (by simp [hN]),HBW.out⟩
     ·
       cases hG : (G == 0)
       · go_wp2_with (go_at_call 107;refine (vmust_no _ _).mono ?_;rintro e w9 ⟨rfl,h9⟩;obtain rfl:=h9.symm)
         exact ⟨rfl,HNo.out (by simp [hN,hG]),HBW.out⟩
       ·
         rcases hSS with hs1 | hs1
         · have hS:=empty_no hs1
           have hs2:=empty_no2 hs1
           go_wp2_with (go_at_call 107;refine (vmust_no _ _).mono ?_;rintro e w9 ⟨rfl,h9⟩;obtain rfl:=h9.symm)
           exact ⟨rfl,HNo.out (by simp [hN,hG,hS]),HBW.out⟩
         · subst hs1
           cases hd1 : (D == 1)
           · go_wp2_with (go_at_call 107;refine (vmust_yes _ _).mono ?_;rintro e w9 ⟨rfl,h9⟩;obtain rfl:=h9.symm)
             go_meet
             exact ⟨rfl,HYes.out (by simp [hN,hG])⟩
           · go_wp2_with (go_at_call 107;refine (vmust_yes _ _).mono ?_;rintro e w9 ⟨rfl,h9⟩;obtain rfl:=h9.symm)
             go_meet
             exact ⟨rfl,HYes.out (by simp [hN,hG])⟩
   by_cases h8 : K = 8
   · subst h8
     obtain ⟨rfl,rfl,rfl,rfl,rfl,rfl⟩ : un = true ∧ ug = true ∧ us = false ∧ uk = false ∧ ud = false ∧ ok = true:=by have:=HT.out;revert this;cases un <;> cases ug <;> cases us <;> cases uk <;> cases ud <;> cases ok <;> decide
     rcases hSS with hs1 | hs1
     · have hS:=empty_no hs1
       have hs2:=empty_no2 hs1
       go_wp2_with (go_at_call 107;refine (vmust_no _ _).mono ?_;rintro e w9 ⟨rfl,h9⟩;obtain rfl:=h9.symm)
       exact ⟨rfl,HNo.out (by simp [hS]),HBW.out⟩
     · subst hs1
       cases hK : ((n2 : Int) == 0)
       · go_wp2_with (go_at_call 107;refine (vmust_no _ _).mono ?_;rintro e w9 ⟨rfl,h9⟩;obtain rfl:=h9.symm)
         exact ⟨rfl,HNo.out (by simp [hK]),HBW.out⟩
       ·
         cases hD : ((nk : Int) == 0)
         · go_wp2_with (go_at_call 107;refine (vmust_no _ _).mono ?_;rintro e w9 ⟨rfl,h9⟩;obtain rfl:=h9.symm)
           exact ⟨rfl,HNo.out (by simp [hK,hD]),HBW.out⟩
         ·
           cases hd1 : (D == 1)
           · go_wp2_with (go_at_call 107;refine (vmust_yes _ _).mono ?_;rintro e w9 ⟨rfl,h9⟩;obtain rfl:=h9.symm)
             go_meet
             exact ⟨rfl,HYes.out (by simp [hK,hD])⟩
           · go_wp2_with (go_at_call 107;refine (vmust_yes _ _).mono ?_;rintro e w9 ⟨rfl,h9⟩;obtain rfl:=h9.symm)
             go_meet
             exact ⟨rfl,HYes.out (by simp [hK,hD])⟩
   by_cases h9 : K = 9
   · subst h9
     obtain ⟨rfl,rfl,rfl,rfl,rfl,rfl⟩ : un = false ∧ ug = false ∧ us = true ∧ uk = true ∧ ud = true ∧ ok = true:=by have:=HT.out;revert this;cases un <;> cases ug <;> cases us <;> cases uk <;> cases ud <;> cases ok <;> decide
     cases hN : (N == 0)
     · go_wp2_with (go_at_call 107;refine (vmust_no _ _).mono ?_;rintro e w9 ⟨rfl,h9⟩;obtain rfl:=h9.symm)
       exact ⟨rfl,HNo.out (by simp [hN]),HBW.out⟩
     ·
       cases hG : (G == 0)
       · go_wp2_with (go_at_call 107;refine (vmust_no _ _).mono ?_;rintro e w9 ⟨rfl,h9⟩;obtain rfl:=h9.symm)
         exact ⟨rfl,HNo.out (by simp [hN,hG]),HBW.out⟩
       ·
         cases hd1 : (D == 1)
         · go_wp2_with (go_at_call 107;refine (vmust_no _ _).mono ?_;rintro e w9 ⟨rfl,h9⟩;obtain rfl:=h9.symm)
           exact ⟨rfl,HNo.out (by simp [hN,hG,hd1]),HBW.out⟩
         · go_wp2_with (go_at_call 107;refine (vmust_yes _ _).mono ?_;rintro e w9 ⟨rfl,h9⟩;obtain rfl:=h9.symm)
           go_meet
           exact ⟨rfl,HYes.out (by simp [hN,hG,hd1])⟩
   obtain rfl:=used_no HT.out h0 h1 h2 h3 h4 h5 h6 h7 h8 h9
   go_wp2_with (go_at_call 107;refine (vmust_no _ _).mono ?_;rintro e w9 ⟨rfl,h9⟩;obtain rfl:=h9.symm)
   exact ⟨rfl,HNo.out (by simp),HBW.out⟩
 case rest =>
   obtain ⟨rfl,HP⟩:=hcut
   have hC:=HP.out.2
   have hsh:=HSN.out HP.out.1
   have huk:=used_keys HT.out
   have hKO:=HNK.out
   clear HBW HT HSN HNo HYes HP v0 v1 v2 v4 hSS
   cases hq3 : fitsB o
   · rw [hq3] at hC HFI
     have HC:=Lh (show VEnd C (.panicked [{ v:=.iface 167 (.agg #[.int .i64 2]),recovered:=false }]) by rw [show C = 2 by rw [← hC];rfl];exact VEnd.bad (by decide))
     clear hC hq3 hsh huk hKO
     go_wp2_with fail
     refine (HFI.out _).mono ?_
     rintro e w2 ⟨rfl,hbk⟩
     obtain ⟨hl2,hBW,q0,q1,q2,q3,q4,q5,v3⟩:=chk_keep hl1 hl2 hBW hbk q0 q1 q2 q3 q4 q5 v3;clear hbk
     go_wp2_with (go_at_call 107;refine (vmust_no _ _).mono ?_;rintro e w9 ⟨rfl,h9⟩;obtain rfl:=h9.symm)
     exact ⟨rfl,HC.out,hBW⟩
   rw [hq3] at hC HFI
   rw [if_neg (by decide)] at hC
   clear hq3
   go_upto_region 5 with (first | (go_at_call 107;refine (vmust_yes _ _).mono ?_;rintro e w9 ⟨rfl,h9⟩;obtain rfl:=h9.symm) | ((go_at_call 109;refine (HFI.out _).mono ?_);rintro e w2 ⟨rfl,hbk⟩))
   obtain ⟨hl2,hBW,q0,q1,q2,q3,q4,q5,v3⟩:=chk_keep hl1 hl2 hBW hbk q0 q1 q2 q3 q4 q5 v3;clear hbk
   by_cases hq4 : longB K < s.length
   · rw [if_pos hq4] at hC
     rw [hsh,decide_eq_true hq4] at HLO
     have HC:=Lh (show VEnd C (.panicked [{ v:=.iface 167 (.agg #[.int .i64 5]),recovered:=false }]) by rw [← hC];exact VEnd.bad (by decide))
     clear hC hq4 hsh huk hKO
     go_wp2_with fail
     refine (HLO.out _).mono ?_
     rintro e w3 ⟨rfl,hbk⟩
     obtain ⟨hl2,hBW,q0,q1,q2,q3,q4,q5,v3⟩:=chk_keep hl1 hl2 hBW hbk q0 q1 q2 q3 q4 q5 v3;clear hbk
     go_wp2_with (go_at_call 107;refine (vmust_no _ _).mono ?_;rintro e w9 ⟨rfl,h9⟩;obtain rfl:=h9.symm)
     exact ⟨rfl,HC.out,hBW⟩
   rw [if_neg hq4] at hC
   rw [hsh,decide_eq_false hq4] at HLO
   clear hq4 hsh
   go_upto_region 6 with (first | (go_at_call 107;refine (vmust_yes _ _).mono ?_;rintro e w9 ⟨rfl,h9⟩;obtain rfl:=h9.symm) | ((go_at_call 110;refine (HLO.out _).mono ?_);rintro e w3 ⟨rfl,hbk⟩))
   obtain ⟨hl2,hBW,q0,q1,q2,q3,q4,q5,v3⟩:=chk_keep hl1 hl2 hBW hbk q0 q1 q2 q3 q4 q5 v3;clear hbk
   by_cases hq5 : 8191 < nk
   · rw [if_pos hq5] at hC
     have hd5 : decide ((nk : Int) ≤ 8191) = false:=by simp;omega
     have HC:=Lh (show VEnd C (.panicked [{ v:=.iface 167 (.agg #[.int .i64 6]),recovered:=false }]) by rw [← hC];exact VEnd.bad (by decide))
     clear hC hq5 huk hKO
     go_wp2_with (go_at_call 107;refine (vmust_no _ _).mono ?_;rintro e w9 ⟨rfl,h9⟩;obtain rfl:=h9.symm)
     exact ⟨rfl,HC.out,hBW⟩
   rw [if_neg hq5] at hC
   have hd5 : decide ((nk : Int) ≤ 8191) = true:=by simp;omega
   go_upto_region 7 with (go_at_call 107;refine (vmust_yes _ _).mono ?_;rintro e w9 ⟨rfl,h9⟩;obtain rfl:=h9.symm)
   go_cut [] from 11 (fun wx => Below w.heap.size w wx ∧ wx.cell? ⟨w.heap.size,5,none⟩ = some (.slice p2 nk c2) ∧ Hid (keysB o = true))
   case first =>
     have HC3:=Lh (show keysB o = false → VEnd C (.panicked [{ v:=.iface 167 (.agg #[.int .i64 3]),recovered:=false }]) from fun h => by rw [show C = 3 by rw [← hC,h];rfl];exact VEnd.bad (by decide))
     clear hC
     by_cases h5 : K = 5
     · subst h5
       obtain rfl : uk = false:=by rw [huk];decide
       have HKB:=Lh (show keysB o = nameB s by unfold keysB;rw [if_pos hKO.2.1,hKO.2.2])
       clear huk hKO
       cases hnm : nameB s
       · rw [hnm] at HKN HKB
         go_wp2_with (first | (go_at_call 111;refine (HKN.out _).mono ?_;rintro e w4 ⟨rfl,h9⟩;obtain rfl:=h9.symm) | (go_at_call 107;refine (vmust_no _ _).mono ?_;rintro e w9 ⟨rfl,h9⟩;obtain rfl:=h9.symm))
         exact ⟨rfl,HC3.out HKB.out,hBW⟩
       · rw [hnm] at HKN HKB
         go_wp2_with (first | (go_at_call 111;refine (HKN.out _).mono ?_;rintro e w4 ⟨rfl,h9⟩;obtain rfl:=h9.symm) | (go_at_call 107;refine (vmust_yes _ _).mono ?_;rintro e w9 ⟨rfl,h9⟩;obtain rfl:=h9.symm))
         go_meet
         exact ⟨hBW,q5,Lh HKB.out⟩
     · have e5 : (K != 5) = true:=by simpa using h5
       by_cases h79 : K = 7 ∨ K = 9
       · obtain rfl : uk = true:=by rw [huk];exact decide_eq_true h79
         have HKF:=Lh (HKE.out _ hBW h79)
         have h9b : w.heap.size < w3.heap.size:=by omega
         clear huk hKO h79 HKE h5
         cases hkb : keysB o
         · rw [hkb] at HKF
           go_wp2_with (first | ((go_at_call 112;refine (HKF.out).mono ?_);rintro e w4 ⟨rfl,hbk⟩) | (go_at_call 107;refine (vmust_no _ _).mono ?_;rintro e w9 ⟨rfl,h9⟩;obtain rfl:=h9.symm))
           exact ⟨rfl,HC3.out hkb,hBW.trans (hbk.mono hBW.size)⟩
         · rw [hkb] at HKF
           go_wp2_with (first | ((go_at_call 112;refine (HKF.out).mono ?_);rintro e w4 ⟨rfl,hbk⟩) | (go_at_call 107;refine (vmust_yes _ _).mono ?_;rintro e w9 ⟨rfl,h9⟩;obtain rfl:=h9.symm))
           go_meet
           exact ⟨hBW.trans (hbk.mono hBW.size),(World.cell?_of_block (a:=⟨w.heap.size,5,none⟩) (hbk.block _ h9b)).trans q5,Lh hkb⟩
       · obtain rfl : uk = false:=by rw [huk];exact decide_eq_false h79
         have HKB:=Lh (show keysB o = true by
           unfold keysB
           rw [if_neg (by rw [hKO.2.1];exact h5),if_pos ⟨by rw [hKO.2.1];omega,by rw [hKO.2.1];omega⟩])
         clear huk hKO h79 h5
         go_wp2_with (go_at_call 107;refine (vmust_yes _ _).mono ?_;rintro e w9 ⟨rfl,h9⟩;obtain rfl:=h9.symm)
         go_meet
         exact ⟨hBW,q5,HKB⟩
   case rest =>
     clear q0 q1 q2 q3 q4 q5 hBW hl2
     obtain ⟨hBW,q5,HKB⟩:=hcut
     rw [HKB.out] at hC
     have HC:=Lh (show firstBad (o.kids.map (checkB n)) = C from hC)
     have HNK:=Lh hKO
     have HSX:=Lh (And.intro HRW.out.2.2 hBW)
     clear hC hKO huk HKB HFI HLO HKN HKE
     go_wp2
     clear q5
     go_loopw [107] (fun i wr => ∃ k : Nat,k ≤ nk ∧ i = .int .i64 k ∧ Below w.heap.size w wr ∧ Hid (∀ x ∈ o.kids.take k,checkB n x = 0)) (fun i _ => nk - (intOf i).toNat)
     case atStart => exact ⟨0,Nat.zero_le _,rfl,hBW,Lh (by simp)⟩
     case round =>
       obtain ⟨k,hk,rfl,hb,HA⟩:=hrel
       by_cases hlt : k < nk
       · have hRw : RowAt S d wr (.slice p2 nk c2) o.kids := by
           have:=HRW.out.1.kept (fun b h => hb.block b (HRW.out.2.2 b h));rw [HNK.out.1] at this;exact this
         obtain ⟨b,off,rfl⟩ : ∃ b off,p2 = some ⟨b,off,none⟩:=by
           rcases hRw with ⟨e,_⟩ | ⟨b,off,c,e,_⟩
           · have:=HNK.out.1;rw [e] at this;simp at this;omega
           · cases e;exact ⟨_,_,rfl⟩
         obtain ⟨x,p3,n3,e3,p4,n4,e4,hx,hxm,s1,O1,f0,f1,f2,f3,f4,f5⟩:=row_kid hRw HNK.out.1 k hlt
         have hS2 : ∀ b,S b → b < wr.heap.size:=fun b h => Nat.lt_of_lt_of_le (HRW.out.2.2 b h) hb.size
         have HI:=Lh (fun (W : World) (hW : Below wr.heap.size wr W) => HDN.out ▸ IH d W _ x (O1.kept (fun b h => hW.block b (hS2 b h)) d) (HRW.out.2.1 x hxm) (fun b h => Nat.lt_of_lt_of_le (hS2 b h) hW.size))
         have htk : o.kids.take (k + 1) = o.kids.take k ++ [x]:=by
           have hk' : k < o.kids.length:=by rw [HNK.out.1];exact hlt
           rw [List.take_succ_eq_append_getElem hk',← hx];simp [List.getD,hk']
         have hdr : o.kids = o.kids.take k ++ x :: o.kids.drop (k + 1):=by
           have hk' : k < o.kids.length:=by rw [HNK.out.1];exact hlt
           conv => lhs;rw [← List.take_append_drop k o.kids]
           rw [List.drop_eq_getElem_cons hk',← hx];simp [List.getD,hk']
         have HTT:=Lh (And.intro htk hdr)
         unfold objCells at HI
         obtain ⟨y,hy⟩ : ∃ y,checkB n x = y:=⟨_,rfl⟩
         rw [hy] at HI
         have HY:=Lh hy
         have L1:=hS2 b s1
         have hszr:=hb.size
         clear hRw hx hxm O1 hS2 htk hdr hy
         go_wp2_with fail
         refine (HI.out _ bel).mono ?_
         rintro e w4 ⟨⟨hy0,rfl⟩ | ⟨hy0,rfl⟩,hb4⟩
         · have HY0:=Lh hy0
           clear hy0
           go_wp2
           go_roundw
           case rel => exact ⟨k + 1,by omega,by go_num,bel,Lh (fun z hz => by
             rw [HTT.out.1,List.mem_append] at hz
             rcases hz with hz | hz
             · exact HA.out z hz
             · simp only [List.mem_singleton] at hz;subst hz;rw [HY.out];exact HY0.out)⟩
           case measure => simp [intOf];omega
         · have HR1 := Lib.hid (show C = y by
             rw [← HC.out,HTT.out.2,List.map_append,List.map_cons,HY.out]
             exact firstBad_snoc (fun z hz => by obtain ⟨u,hu,rfl⟩:=List.mem_map.1 hz;exact HA.out u hu) hy0 _)
           have HY0:=Lh hy0
           clear hy0
           go_wp2
           exact ⟨rfl,by rw [HR1.out];exact VEnd.bad HY0.out,bel⟩
       · have HR1 := Lib.hid (show C = 0 by
           rw [← HC.out]
           have hkn : k = nk:=by omega
           refine firstBad_zero fun z hz => ?_
           obtain ⟨u,hu,rfl⟩:=List.mem_map.1 hz
           refine HA.out u ?_
           rw [List.take_of_length_le (by rw [HNK.out.1];omega)];exact hu)
         go_wp2
         go_end0
         exact ⟨by rw [HR1.out];exact VEnd.good,hb⟩
theorem vcheck_in (S : Nat → Prop) : ∀ n,n ≤ 24 → VCheck S n
 | 0,_ => vcheck_zero S
 | n + 1,h => vcheck_step S n (by omega) (vcheck_in S n (by omega))
open Go.RowKit Fo
theorem vheap_new (w : World) (o : Obj) : (w.alloc o).heap[w.heap.size]? = some o:=heap_alloc_new w o
theorem vcaught_idle (p : Addr) (w : World) :
   CallsD Tryz.prog 106 #[.pointer (some p)] .returning w fun e u' w' => e = .returned (.tuple #[]) ∧ u' = .returning ∧ w' = w:=by
 refine callsD_of_wpS Tryz.func106 rfl fun c₀ cs hu => ?_
 simp only [Tryz.ntmps106,List.size_toArray,List.length_cons,List.length_nil,Nat.reduceAdd,Nat.reduceSub,Array.replicate_succ,Array.replicate_zero,List.push_toArray,List.append_toArray,List.nil_append,List.cons_append]
 apply wpS_seq
 apply wpS_region
 simp [wpOpsS,go_sem,recoverD,hu,Tryz.ntmps106,Exit.thenS]
 refine wpS_of_wp ?_
 go_wp2
 cases c₀
 simp_all [bodyPostS,results,Tryz.results106]
theorem vcaught_catch (b : Nat) (x y : Int) (older : List PanicEntry) (w : World) (hb : b < w.heap.size) (c0 : w.cell? ⟨b, 0, none⟩ = some (.int .i64 y)) (f0 : w.frozen? ⟨b, 0, none⟩ = false) :
   CallsD Tryz.prog 106 #[.pointer (some ⟨b,0,none⟩)] (.panicking ({ v:=.iface 167 (.agg #[.int .i64 x]),recovered:=false } :: older)) w fun e u' w' =>
     e = .returned (.tuple #[]) ∧ u' = .panicking ({ v:=.iface 167 (.agg #[.int .i64 x]),recovered:=true } :: older) ∧ w' = (w.setCell ⟨b,0,none⟩ (.int .i64 x)).alloc (.cells #[.int .i64 x] 167):=by
 have hta : ∀ (x : Int) (w : World),(Instr.typeAssert (.iface 167 (.agg #[.int .i64 x])) 20 167 true).run Tryz.prog w = .ok (.tuple #[.agg #[.int .i64 x],.bool true]) w:=fun _ _ => by kernel_rfl
 have n1 : ¬ b = w.heap.size:=by omega
 have n2 : ¬ w.heap.size = b:=by omega
 refine callsD_of_wpS Tryz.func106 rfl fun c₀ cs hu => ?_
 simp only [Tryz.ntmps106,List.size_toArray,List.length_cons,List.length_nil,Nat.reduceAdd,Nat.reduceSub,Array.replicate_succ,Array.replicate_zero,List.push_toArray,List.append_toArray,List.nil_append,List.cons_append]
 apply wpS_seq
 apply wpS_region
 simp [wpOpsS,go_sem,recoverD,hu,Tryz.ntmps106,Exit.thenS]
 refine wpS_of_wp ?_
 go_wp2
 cases c₀
 simp_all [bodyPostS,results,Tryz.results106]
def ObBox (w : World) (b : Nat) (cs : List Value) : Prop:=w.heap[b]? = some (.cells cs.toArray 36 (0,0))
theorem obbox_six {w : World} {b : Nat} {v0 v1 v2 v3 v4 v5 : Value} (h : ObBox w b [v0, v1, v2, v3, v4, v5]) :
   w.cell? ⟨b,0,none⟩ = some v0 ∧ w.cell? ⟨b,1,none⟩ = some v1 ∧ w.cell? ⟨b,2,none⟩ = some v2 ∧ w.cell? ⟨b,3,none⟩ = some v3 ∧ w.cell? ⟨b,4,none⟩ = some v4 ∧ w.cell? ⟨b,5,none⟩ = some v5:=by
 unfold ObBox at h;simp [World.cell?,h]
theorem vcheck1_in (S : Nat → Prop) (d b : Nat) (w : World) (cs : List Value) (o : Ob) (hB : ObBox w b cs) (h : ObjAt S d w cs o) (hsm : smallO d o) (hS : ∀ b, S b → b < w.heap.size) :
   Calls Tryz.prog 64 #[.pointer (some ⟨b,0,none⟩)] w fun e w' => VEnd (checkB 24 o) e ∧ Below w.heap.size w w':=by
 have HC:=Lh (vcheck_in S 24 (by decide) d w cs o h hsm hS)
 obtain ⟨p1,c1,p2,c2,rfl⟩:=h.form2
 unfold objCells at HC hB
 obtain ⟨q0,q1,q2,q3,q4,q5⟩:=obbox_six hB
 rw [show (25 - ((24 : Nat) : Int)) = 1 by decide] at HC
 clear h hS hsm hB
 go_enter Tryz.func64,Tryz.ntmps64
 go_wp2_with fail
 refine HC.out.mono ?_
 rintro e w1 ⟨⟨hy,rfl⟩ | ⟨hy,rfl⟩,hb1⟩
 · have HY:=Lh (show VEnd (checkB 24 o) (.returned (.tuple #[])) by rw [hy];exact VEnd.good)
   clear hy
   go_wp2
   go_end0
   exact ⟨HY.out,hb1⟩
 · have HY:=Lh (VEnd.bad hy)
   clear hy
   go_wp2
   exact ⟨rfl,HY.out,hb1⟩
theorem vcaught_in (S : Nat → Prop) (d b : Nat) (w : World) (cs : List Value) (o : Ob) (hB : ObBox w b cs) (h : ObjAt S d w cs o) (hsm : smallO d o) (hS : ∀ b, S b → b < w.heap.size) (hb : b < w.heap.size) :
   Calls Tryz.prog 63 #[.func (.func 64) #[] #[.pointer (some ⟨b,0,none⟩)]] w fun e w' => e = .returned (.int .i64 (checkB 24 o)) ∧ Below w.heap.size w w':=by
 have hmf : ∀ (fn : Fn) (first cap : Array Value) (w : World),(Instr.makeFunc fn first cap).run Tryz.prog w = .ok (.func fn first cap) w:=fun _ _ _ _ => rfl
 have HC:=Lh (fun (W : World) (hW : Below w.heap.size w W) => vcheck1_in S d b W cs o ((hW.block b hb).trans hB) (h.kept (fun b h => hW.block b (hS b h)) d) hsm (fun b h => Nat.lt_of_lt_of_le (hS b h) hW.size))
 clear hB h hS hsm
 go_enter_defers Tryz.func63,Tryz.ntmps63
 go_wp2_with fail
 refine (HC.out _ bel).mono ?_
 rintro e w1 ⟨⟨hy,rfl⟩ | ⟨hy,rfl⟩,hb1⟩
 · have hl1:=hb1.size
   simp at hl1
   have hk : w1.heap[w.heap.size]? = some (.cells #[.int .i64 0] 43 (0,0)):=by
     rw [hb1.block _ (by simp)];exact vheap_new _ _
   have y0 : w1.cell? ⟨w.heap.size,0,none⟩ = some (.int .i64 0):=by simp [World.cell?,hk]
   have yf : w1.frozen? ⟨w.heap.size,0,none⟩ = false:=by simp [World.frozen?,hk]
   have HY:=Lh hy
   clear hy hk
   go_wp2
   refine leaves_cons (f:=106) (args:=#[.pointer (some ⟨w.heap.size,0,none⟩)]) (by simp) (by simp [go_sem]) ?_
   refine (vcaught_idle _ _).mono ?_
   rintro e u' w'' ⟨rfl,rfl,rfl⟩
   simp [Leaves,settle,results,Tryz.results63,go_sem,y0,yf]
   exact ⟨HY.out.symm,bel⟩
 · have hl1:=hb1.size
   simp at hl1
   have hk : w1.heap[w.heap.size]? = some (.cells #[.int .i64 0] 43 (0,0)):=by
     rw [hb1.block _ (by simp)];exact vheap_new _ _
   have y0 : w1.cell? ⟨w.heap.size,0,none⟩ = some (.int .i64 0):=by simp [World.cell?,hk]
   have yf : w1.frozen? ⟨w.heap.size,0,none⟩ = false:=by simp [World.frozen?,hk]
   have n1 : ¬ w.heap.size = w1.heap.size:=by omega
   clear hy hk
   go_wp2
   refine leaves_cons (f:=106) (args:=#[.pointer (some ⟨w.heap.size,0,none⟩)]) (by simp) (by simp [go_sem]) ?_
   refine (vcaught_catch _ _ 0 _ _ (by omega) y0 yf).mono ?_
   rintro e u' w'' ⟨rfl,rfl,rfl⟩
   have z0 : ((w1.setCell ⟨w.heap.size,0,none⟩ (.int .i64 (checkB 24 o))).alloc (.cells #[.int .i64 (checkB 24 o)] 167)).cell? ⟨w.heap.size,0,none⟩ = some (.int .i64 (checkB 24 o)) :=
     (World.cell?_of_block (a:=⟨w.heap.size,0,none⟩) (Below.heap_alloc _ _ _ (by simp;omega))).trans (World.cell?_setCell_same _ _ _ y0)
   simp [Leaves,settle,results,Tryz.results63,go_sem,z0]
   exact bel
theorem vCheck_in (S : Nat → Prop) (d : Nat) (w : World) (cs : List Value) (o : Ob) (h : ObjAt S d w cs o) (hsm : smallO d o) (hS : ∀ b, S b → b < w.heap.size) :
   Calls Tryz.prog 36 #[.agg cs.toArray] w fun e w' => e = .returned (.int .i64 (checkB 24 o)) ∧ Below w.heap.size w w':=by
 have hmf : ∀ (fn : Fn) (first cap : Array Value) (w : World),(Instr.makeFunc fn first cap).run Tryz.prog w = .ok (.func fn first cap) w:=fun _ _ _ _ => rfl
 have hbw : Below w.heap.size w (w.alloc (.cells cs.toArray 36)):=bel
 have HC:=Lh (vcaught_in S d w.heap.size (w.alloc (.cells cs.toArray 36)) cs o (vheap_new _ _) (h.kept (fun b h => hbw.block b (hS b h)) d) hsm (fun b h => Nat.lt_of_lt_of_le (hS b h) hbw.size) (by simp))
 obtain ⟨p1,c1,p2,c2,rfl⟩:=h.form2
 unfold objCells at HC
 unfold objCells
 clear h hS hsm hbw
 go_enter Tryz.func36,Tryz.ntmps36
 go_wp2_with fail
 refine HC.out.mono ?_
 rintro e w1 ⟨rfl,hb1⟩
 go_wp2
 go_ret
 exact ⟨rfl,bel⟩
open Go.RowKit Fo
def tameO : Nat → Ob → Prop
 | 0,_ => False
 | d + 1,o => o.keys.length ≤ 8192 ∧ o.kids.length ≤ 8192 ∧ ∀ k ∈ o.kids,tameO d k
theorem vid_in (K N G : Int) (s : ByteArray) (p1 p2 : Option Addr) (n1 c1 n2 c2 : Nat) (w : World) :
   Calls Tryz.prog 95 #[.agg #[.int .i64 K,.int .i64 N,.int .i64 G,.string s,.slice p1 n1 c1,.slice p2 n2 c2]] w fun e w' => e = .returned (.agg #[.int .i64 K,.int .i64 N,.int .i64 G,.string s,.slice p1 n1 c1,.slice p2 n2 c2]) ∧ Below w.heap.size w w':=by
 go_enter Tryz.func95,Tryz.ntmps95
 go_wp2
 refine bodyPost_ret (v:=.agg #[.int .i64 K,.int .i64 N,.int .i64 G,.string s,.slice p1 n1 c1,.slice p2 n2 c2]) (by simp [results,Tryz.results95,go_sem]) rfl ⟨rfl,bel⟩
theorem keyed_in (o : Ob) (p1 p2 : Option Addr) (n1 c1 n2 c2 : Nat) (w : World) :
   Calls Tryz.prog 66 #[.agg #[.int .i64 o.kind,.int .i64 o.n,.int .i64 o.g,.string ⟨o.s.toArray⟩,.slice p1 n1 c1,.slice p2 n2 c2]] w fun e w' => e = .returned (.bool (o.kind == 7 || o.kind == 9)) ∧ Below w.heap.size w w':=by
 generalize o.kind = K
 by_cases h7 : K = 7
 · subst h7
   go_enter Tryz.func66,Tryz.ntmps66
   go_wp2
   go_ret
   exact ⟨rfl,bel⟩
 · have e7 : (K == 7) = false:=by simpa using h7
   clear h7
   go_enter Tryz.func66,Tryz.ntmps66
   go_wp2
   go_ret
   exact ⟨ret_bool (by rw [e7,Bool.false_or]),bel⟩
theorem keys_copy (S : Nat → Prop) (kv : Value) (ks : List L) (w : World) (h : KeysAt S w kv ks) (hn : ks.length ≤ 8192) :
   Calls Tryz.prog 139 #[kv] w fun e w' => ∃ p c,e = .returned (.slice p ks.length c) ∧ KeysAt (fun b => w.heap.size ≤ b) w' (.slice p ks.length c) ks ∧ Below w.heap.size w w':=by
 rcases h with ⟨rfl,p,c,rfl⟩ | ⟨b,o,c,rfl,hb,hc⟩
 · cases p with
   | none =>
     refine (Tryz.slices_Clone_string_nil 0 c w).mono ?_
     rintro e w' ⟨rfl,rfl⟩
     exact ⟨none,0,rfl,.inl ⟨rfl,_,_,rfl⟩,Below.refl _ _⟩
   | some a =>
     refine (Tryz.slices_Clone_string_zero a c w).mono ?_
     rintro e w' ⟨v',rfl,hown,_,hbe⟩
     obtain ⟨p,c,rfl⟩:=own_slice hown
     exact ⟨p,c,rfl,.inl ⟨rfl,_,_,rfl⟩,hbe⟩
 · refine (Tryz.slices_Clone_string b o ks.length c (ks.map fun x => (⟨x.toArray⟩ : ByteArray)) w (by simp) (by omega) (fun j hj => by
     have hj2 : j < ks.length:=by simpa using hj
     rw [hc j hj2];simp [List.getD,hj2])).mono ?_
   rintro e w' ⟨v',rfl,hown,_,hbe⟩
   obtain ⟨p,c',rfl⟩:=own_slice hown
   refine ⟨p,c',rfl,?_,hbe⟩
   have h0:=hown
   rcases hown.2 with ⟨h1,h2⟩ | ⟨g,cap,cur,h1,h2,h3,_⟩
   · exact .inl ⟨List.eq_nil_of_length_eq_zero h2,_,_,by rw [h2]⟩
   · simp only [Value.slice.injEq] at h1
     obtain ⟨rfl,_,rfl⟩:=h1
     refine .inr ⟨g,0,c',rfl,h2,fun i hi => ?_⟩
     have:=World.ownsRow.cellAt h0 i (by omega)
     rw [Nat.zero_add,this]
     rw [List.take_of_length_le (by simp)]
     simp [hi]
theorem made_six {z0 z1 z2 z3 z4 z5 : Value} (n : Nat) : (madeCells #[z0,z1,z2,z3,z4,z5] (n * 6)).toList = (List.replicate n [z0,z1,z2,z3,z4,z5]).flatten:=by
 have h6 : ∀ cs ∈ List.replicate n [z0,z1,z2,z3,z4,z5],cs.length = 6:=by intro cs h;rw [List.eq_of_mem_replicate h];rfl
 have hl:=flat6 h6
 rw [List.length_replicate] at hl
 refine List.ext_getElem? fun i => ?_
 by_cases hi : i < n * 6
 · have e : 6 * (i / 6) + i % 6 = i:=by omega
   have hq : (List.replicate n [z0,z1,z2,z3,z4,z5])[i / 6]? = some [z0,z1,z2,z3,z4,z5]:=by
     rw [List.getElem?_eq_getElem (by simp;omega)];simp
   have r:=flat6_get h6 hq (show i % 6 < 6 by omega)
   rw [e] at r
   rw [r]
   have hm : i % 6 < 6:=by omega
   simp only [madeCells,Array.toList_map,Array.toList_range,List.getElem?_map,List.getElem?_range hi,Option.map_some]
   show some (#[z0,z1,z2,z3,z4,z5][i % 6]!) = _
   match i % 6,hm with
   | 0,_ => rfl
   | 1,_ => rfl
   | 2,_ => rfl
   | 3,_ => rfl
   | 4,_ => rfl
   | 5,_ => rfl
 · rw [List.getElem?_eq_none (by simp [size_madeCells];omega),List.getElem?_eq_none (by omega)]
open Go.RowKit Fo
def CopyOf (d : Nat) (w : World) (o : Ob) (e : Ending) (w' : World) : Prop :=
 ∃ p1 c1 p2 c2,e = .returned (.agg #[.int .i64 o.kind,.int .i64 o.n,.int .i64 o.g,.string ⟨o.s.toArray⟩,.slice p1 o.keys.length c1,.slice p2 o.kids.length c2]) ∧
   ObjAt (fun b => w.heap.size ≤ b) d w' (objCells o.kind o.n o.g o.s (.slice p1 o.keys.length c1) (.slice p2 o.kids.length c2)) o ∧ Below w.heap.size w w'
def VCopy (S : Nat → Prop) (d : Nat) : Prop:=∀ (w : World) (cs : List Value) (o : Ob),ObjAt S d w cs o → tameO d o → (∀ b,S b → b < w.heap.size) →
 Calls Tryz.prog 94 #[.agg cs.toArray,.func (.func 95) #[] #[]] w (CopyOf d w o)
theorem vcopy_step (S : Nat → Prop) (d : Nat) (IH : VCopy S d) : VCopy S (d + 1):=by
 intro w cs o hO ht hS
 obtain ⟨kv,dv,rfl,hK,hR0⟩:=hO
 have hR : RowAt S d w dv o.kids:=hR0
 clear hR0
 obtain ⟨t1,t2,t3⟩:=ht
 have a1 : ∃ p c,kv = .slice p o.keys.length c:=by
   rcases hK with ⟨e,p,c,h⟩ | ⟨b,o,c,h,_⟩
   · exact ⟨_,_,by rw [e];exact h⟩
   · exact ⟨_,_,h⟩
 have a2 : ∃ p c,dv = .slice p o.kids.length c:=by
   rcases hR with ⟨e,p,c,h⟩ | ⟨b,o,c,h,_⟩
   · exact ⟨_,_,by rw [e];exact h⟩
   · exact ⟨_,_,h⟩
 obtain ⟨p1,c1,rfl⟩:=a1
 obtain ⟨p2,c2,rfl⟩:=a2
 have HID:=Lh (fun W => vid_in o.kind o.n o.g ⟨o.s.toArray⟩ p1 p2 o.keys.length c1 o.kids.length c2 W)
 have HKC:=Lh (fun W (hW : Below w.heap.size w W) => keys_copy S _ o.keys W (hK.kept (fun b h => hW.block b (hS b h))) t1)
 have HRW:=Lh (And.intro hR (And.intro t3 hS))
 obtain ⟨nk,hnk⟩ : ∃ nk,o.kids.length = nk:=⟨_,rfl⟩
 obtain ⟨n2,hn2⟩ : ∃ n2,o.keys.length = n2:=⟨_,rfl⟩
 unfold objCells
 unfold CopyOf
 rw [hnk,hn2]
 rw [hnk,hn2] at HID
 rw [hn2] at HKC
 rw [hnk] at HRW t2
 have HN:=Lh (And.intro hnk hn2)
 clear hK hR hS t1 t3 hnk hn2
 obtain ⟨K,hk0⟩ : ∃ K,o.kind = K:=⟨_,rfl⟩
 obtain ⟨N,hN0⟩ : ∃ N,o.n = N:=⟨_,rfl⟩
 obtain ⟨G,hG0⟩ : ∃ G,o.g = G:=⟨_,rfl⟩
 obtain ⟨ss,hs0⟩ : ∃ ss : ByteArray,(⟨o.s.toArray⟩ : ByteArray) = ss:=⟨_,rfl⟩
 rw [hk0,hN0,hG0,hs0] at HID ⊢
 have HE:=Lh (And.intro hk0 (And.intro hN0 (And.intro hG0 hs0)))
 clear hk0 hN0 hG0 hs0
 go_enter Tryz.func94,Tryz.ntmps94
 go_upto_region 1 with fail
 obtain ⟨w0,hw0⟩ : ∃ w0,((w.alloc (.cells #[.int .i64 K,.int .i64 N,.int .i64 G,.string ss,.slice p1 n2 c1,.slice p2 nk c2] 36)).alloc (.cells #[.int .i64 0,.int .i64 0,.int .i64 0,.string ⟨#[]⟩,.slice none 0 0,.slice none 0 0] 36)) = w0:=⟨_,rfl⟩
 rw [hw0]
 have A0 : w0.heap[w.heap.size]? = some (.cells #[.int .i64 K,.int .i64 N,.int .i64 G,.string ss,.slice p1 n2 c1,.slice p2 nk c2] 36 (0,0)):=by
   rw [← hw0,Below.heap_alloc _ _ _ (by simp)];exact heap_new_at _ _ _ rfl
 have A1 : w0.heap[w.heap.size + 1]? = some (.cells #[.int .i64 0,.int .i64 0,.int .i64 0,.string ⟨#[]⟩,.slice none 0 0,.slice none 0 0] 36 (0,0)):=by
   rw [← hw0];exact heap_new_at _ _ _ (by simp)
 have hbw : Below w.heap.size w w0:=by rw [← hw0];exact bel
 have hz0 : w.heap.size + 2 ≤ w0.heap.size:=by rw [← hw0];simp
 clear hw0
 obtain ⟨b0,b1,b2,b3,b4,b5,bf⟩:=six_of A0
 go_wp2_with fail
 refine (HID.out _).mono ?_
 rintro e w1 ⟨rfl,hb1⟩
 have B0:=(hb1.block _ (by omega)).trans A0
 have B1:=(hb1.block _ (by omega)).trans A1
 have hbw1:=hbw.trans (hb1.mono hbw.size)
 have hz1:=hb1.size
 clear b0 b1 b2 b3 b4 b5 bf A0 A1 hbw hb1 HID
 obtain ⟨b0,b1,b2,b3,b4,b5,bf⟩:=six_of B0
 go_upto_region 2 with fail
 obtain ⟨w2,hw2⟩ : ∃ w2,((((((w1.setCell ⟨w.heap.size,0,none⟩ (.int .i64 K)).setCell ⟨w.heap.size,1,none⟩ (.int .i64 N)).setCell ⟨w.heap.size,2,none⟩ (.int .i64 G)).setCell ⟨w.heap.size,3,none⟩ (.string ss)).setCell ⟨w.heap.size,4,none⟩ (.slice p1 n2 c1)).setCell ⟨w.heap.size,5,none⟩ (.slice p2 nk c2)) = w2:=⟨_,rfl⟩
 rw [hw2]
 have sg:=set6_grown w1 w.heap.size 0 1 2 3 4 5 (.int .i64 K) (.int .i64 N) (.int .i64 G) (.string ss) (.slice p1 n2 c1) (.slice p2 nk c2)
 have C0:=set_six (v0:=.int .i64 K) (v1:=.int .i64 N) (v2:=.int .i64 G) (v3:=.string ss) (v4:=.slice p1 n2 c1) (v5:=.slice p2 nk c2) B0
 rw [hw2] at sg C0
 have C1:=(sg.block _ (lt_of_block B1) (by simp)).trans B1
 have hbw2 : Below w.heap.size w w2:=hbw1.grown sg hbw1.size (fun k h => by cases h;exact Nat.le_refl _)
 have hz2 : w.heap.size + 2 ≤ w2.heap.size:=by have:=sg.size;omega
 clear hw2 sg b0 b1 b2 b3 b4 b5 bf B0 B1 hbw1 hz1 hz0
 obtain ⟨b0,b1,b2,b3,b4,b5,bf⟩:=six_of C0
 go_wp2_with fail
 refine (HKC.out w2 hbw2).mono ?_
 rintro e w3 ⟨p3,c3,rfl,hK3,hb3⟩
 have D0:=(hb3.block _ (by omega)).trans C0
 have D1:=(hb3.block _ (by omega)).trans C1
 have hbw3:=hbw2.trans (hb3.mono hbw2.size)
 have HK3:=Lh (KeysAt.weaken (S':=fun b => w2.heap.size ≤ b ∧ b < w3.heap.size) hK3 (fun b h h2 => ⟨h,h2⟩))
 have hz3:=hb3.size
 clear b0 b1 b2 b3 b4 b5 bf C0 C1 hb3 hK3 hbw2
 obtain ⟨b0,b1,b2,b3,b4,b5,bf⟩:=six_of D0
 go_upto_region 3 with fail
 obtain ⟨w4,hw4⟩ : ∃ w4,w3.setCell ⟨w.heap.size,4,none⟩ (.slice p3 n2 c3) = w4:=⟨_,rfl⟩
 rw [hw4]
 have sg:=set1_grown (a:=w3) (w:=w3) (b:=w.heap.size) ⟨rfl,rfl,rfl,Nat.le_refl _,fun _ _ _ => rfl⟩ 4 (.slice p3 n2 c3)
 have E0:=set_fourth (v:=.slice p3 n2 c3) D0
 rw [hw4] at sg E0
 have E1:=(sg.block _ (lt_of_block D1) (by simp)).trans D1
 have hbw4 : Below w.heap.size w w4:=hbw3.grown sg hbw3.size (fun k h => by cases h;exact Nat.le_refl _)
 have hz4:=sg.size
 have HK4:=Lh (HK3.out.kept (w':=w4) (fun b h => sg.block b h.2 (by have:=h.1;simp;omega)))
 clear hw4 sg b0 b1 b2 b3 b4 b5 bf D0 D1 hbw3 HK3 HKC
 obtain ⟨b0,b1,b2,b3,b4,b5,bf⟩:=six_of E0
 obtain ⟨r0,r1,r2,r3,r4,r5,rf⟩:=six_of E1
 have hne : ¬ w.heap.size = w.heap.size + 1:=by omega
 have hne2 : ¬ w.heap.size + 1 = w.heap.size:=by omega
 cases p2 with
 | none =>
   have HF:=Lh (show o.kids = [] from by
     rcases HRW.out.1 with ⟨e,_⟩ | ⟨b,off,c,e,_⟩
     · exact e
     · cases e)
   have h0 : nk = 0:=by rw [← HN.out.1,HF.out];rfl
   subst h0
   go_wp2
   obtain ⟨w9,hw9⟩ : ∃ w9,((((((w4.setCell ⟨w.heap.size + 1,0,none⟩ (.int .i64 K)).setCell ⟨w.heap.size + 1,1,none⟩ (.int .i64 N)).setCell ⟨w.heap.size + 1,2,none⟩ (.int .i64 G)).setCell ⟨w.heap.size + 1,3,none⟩ (.string ss)).setCell ⟨w.heap.size + 1,4,none⟩ (.slice p3 n2 c3)).setCell ⟨w.heap.size + 1,5,none⟩ (.slice none 0 c2)) = w9:=⟨_,rfl⟩
   rw [hw9]
   have sg9:=set6_grown w4 (w.heap.size + 1) 0 1 2 3 4 5 (.int .i64 K) (.int .i64 N) (.int .i64 G) (.string ss) (.slice p3 n2 c3) (.slice none 0 c2)
   have Z1:=set_six (v0:=.int .i64 K) (v1:=.int .i64 N) (v2:=.int .i64 G) (v3:=.string ss) (v4:=.slice p3 n2 c3) (v5:=.slice none 0 c2) E1
   rw [hw9] at sg9 Z1
   have hbw9 : Below w.heap.size w w9:=hbw4.grown sg9 hbw4.size (fun k h => by cases h;omega)
   clear hw9
   obtain ⟨s0,s1,s2,s3,s4,s5,sf⟩:=six_of Z1
   refine bodyPost_ret (v:=.agg #[.int .i64 K,.int .i64 N,.int .i64 G,.string ss,.slice p3 n2 c3,.slice none 0 c2]) (by simp [results,Tryz.results94,go_sem,s0,s1,s2,s3,s4,s5]) rfl ?_
   have HK9:=HK4.out.kept (w':=w9) (fun b h => sg9.block b (by have:=h.2;omega) (by have:=h.1;simp;omega))
   refine ⟨p3,c3,none,c2,rfl,⟨.slice p3 n2 c3,.slice none 0 c2,?_,HK9.weaken (fun b h _ => by have:=h.1;omega),.inl ⟨HF.out,none,c2,rfl⟩⟩,hbw9⟩
   rw [← HE.out.1,← HE.out.2.1,← HE.out.2.2.1]
 | some a =>
   obtain ⟨i0,hi0,y0,y1,y2⟩:=info_parts Tryz.infoOb
   have hb88 : i0.bytes * nk ≤ 281474976710656:=by rw [y2];omega
   go_upto_region 5 with (at_make;go_must (refine wpList_make_full _ rfl _ _ 34 rfl w.heap.size 36 i0 (.agg #[.int .i64 0,.int .i64 0,.int .i64 0,.string ⟨#[]⟩,.slice none 0 0,.slice none 0 0]) 6 Tryz.underlying34 hi0 y0 y1 .i64 .i64 nk nk nk rfl rfl rfl rfl hb88 (by unfold maxLen;omega) (by omega) ?_);intro w5 own5 hg5)
   obtain ⟨g,hg⟩ : ∃ g,w4.heap.size = g:=⟨_,rfl⟩
   have hwg : w.heap.size + 1 < g:=by have:=lt_of_block E1;omega
   have F0:=(hg5.block _ (lt_of_block E0) (by simp)).trans E0
   have F1:=(hg5.block _ (lt_of_block E1) (by simp)).trans E1
   have hbg : Below g w4 w5:=(Below.refl _ _).grown hg5 (by omega) (fun k h => by cases h)
   have HK5:=Lh (HK4.out.kept (w':=w5) (fun b h => hg5.block b (by have:=h.2;omega) (by simp)))
   have hbw5 : Below w.heap.size w w5:=hbw4.trans (hbg.mono (by omega))
   rw [show (madeCells (Value.agg #[.int .i64 0,.int .i64 0,.int .i64 0,.string ⟨#[]⟩,.slice none 0 0,.slice none 0 0]).cells (nk * 6)).toList = (List.replicate nk [.int .i64 0,.int .i64 0,.int .i64 0,.string ⟨#[]⟩,.slice none 0 0,.slice none 0 0]).flatten from made_six nk] at own5
   rw [hg] at own5 ⊢
   have hgw : w2.heap.size ≤ g ∧ w3.heap.size ≤ g:=by omega
   clear b0 b1 b2 b3 b4 b5 bf r0 r1 r2 r3 r4 r5 rf E0 E1 hg5 hb88 y0 y1 y2 hi0 hbw4 HK4 hz3 hz4
   obtain ⟨b0,b1,b2,b3,b4,b5,bf⟩:=six_of F0
   go_wp2
   go_loopw [25] (fun i wr => ∃ (k : Nat) (css : List (List Value)), k ≤ nk ∧ i = .int .i64 k ∧ Below g w5 wr ∧ wr.ownsRow w.heap.size 36 6 (.slice (some ⟨g, 0, none⟩) nk nk) nk css.flatten ∧
       Hid (css.length = nk ∧ (∀ cs ∈ css,cs.length = 6) ∧ ∀ j cs x,j < k → css[j]? = some cs → o.kids[j]? = some x → ObjAt (fun b => g < b) d wr cs x)) (fun i _ => nk - (intOf i).toNat)
   case atStart => exact ⟨0,_,Nat.zero_le _,rfl,Below.refl _ _,own5,Lh ⟨by simp,fun cs h => by rw [List.eq_of_mem_replicate h];rfl,fun j _ _ h => absurd h (Nat.not_lt_zero _)⟩⟩
   case round =>
     obtain ⟨k,css,hk,rfl,hbr,own,HC⟩:=hrel
     have hbwr : Below w.heap.size w wr:=hbw5.trans (hbr.mono (by omega))
     have hgr : g < wr.heap.size:=(World.ownsRow.lt own g rfl).2
     by_cases hlt : k < nk
     · have hRw : RowAt S d wr (.slice (some a) nk c2) o.kids:=HRW.out.1.kept (fun b h => hbwr.block b (HRW.out.2.2 b h))
       obtain ⟨b,off,rfl⟩ : ∃ b off,a = ⟨b,off,none⟩:=by
         rcases hRw with ⟨e,_⟩ | ⟨b,off,c,e,_⟩
         · have:=HN.out.1;rw [e] at this;simp at this;omega
         · cases e;exact ⟨_,_,rfl⟩
       obtain ⟨x,p5,n5,e5,p6,n6,e6,hx,hxm,s1,O1,f0,f1,f2,f3,f4,f5⟩:=row_kid hRw HN.out.1 k hlt
       have hS2 : ∀ b,S b → b < wr.heap.size:=fun b h => Nat.lt_of_lt_of_le (HRW.out.2.2 b h) hbwr.size
       have HI:=Lh (fun (W : World) (hW : Below wr.heap.size wr W) => IH W _ x (O1.kept (fun b h => hW.block b (hS2 b h)) d) (HRW.out.2.1 x hxm) (fun b h => Nat.lt_of_lt_of_le (hS2 b h) hW.size))
       have hxk : o.kids[k]? = some x:=by
         have hk' : k < o.kids.length:=by rw [HN.out.1];exact hlt
         rw [List.getElem?_eq_getElem hk']
         rw [List.getD_eq_getElem?_getD,List.getElem?_eq_getElem hk'] at hx
         exact congrArg some hx
       have HX:=Lh hxk
       have L1:=hS2 b s1
       unfold objCells at HI
       clear hRw hx hxm O1 hS2 hxk F0 F1 b0 b1 b2 b3 b4 b5 bf
       go_wp2_with fail
       refine (HI.out _ bel).mono ?_
       rintro e w6 ⟨p7,c7,p8,c8,rfl,O6,hb6⟩
       have hz6:=hb6.size
       simp at hz6
       have own6 : w6.ownsRow w.heap.size 36 6 (.slice (some ⟨g,0,none⟩) nk nk) nk css.flatten :=
         World.ownsRow.kept (row:=none) (own.alloc (.cells #[.int .i64 x.kind,.int .i64 x.n,.int .i64 x.g,.string ⟨x.s.toArray⟩,.slice p5 n5 e5,.slice p6 n6 e6] 36)) ⟨hb6.os,hb6.tape,hb6.output,hb6.size,fun k hk _ => hb6.block k hk⟩ (Classical.em _)
       obtain ⟨vv,hvv⟩ : ∃ y,css[k]? = some y:=⟨_,List.getElem?_eq_getElem (by rw [HC.out.1];exact hlt)⟩
       obtain ⟨a0,a1,a2,a3,a4,a5,rfl⟩ : ∃ a0 a1 a2 a3 a4 a5,vv = [a0,a1,a2,a3,a4,a5]:=by
         have:=HC.out.2.1 vv (List.mem_of_getElem? hvv)
         match vv,this with
         | [a0,a1,a2,a3,a4,a5],_ => exact ⟨_,_,_,_,_,_,rfl⟩
       have mm : ∀ j,j < 6 → w6.cell? ⟨g,6 * k + j,none⟩ = [a0,a1,a2,a3,a4,a5][j]?:=fun j hj => (own6.cellAt _ (by omega)).trans (flat6_get HC.out.2.1 hvv hj)
       have m0 : w6.cell? ⟨g,k * 6,none⟩ = some a0:=by rw [Nat.mul_comm];exact mm 0 (by omega)
       have m1 : w6.cell? ⟨g,k * 6 + 1,none⟩ = some a1:=by rw [Nat.mul_comm];exact mm 1 (by omega)
       have m2 : w6.cell? ⟨g,k * 6 + 2,none⟩ = some a2:=by rw [Nat.mul_comm];exact mm 2 (by omega)
       have m3 : w6.cell? ⟨g,k * 6 + 3,none⟩ = some a3:=by rw [Nat.mul_comm];exact mm 3 (by omega)
       have m4 : w6.cell? ⟨g,k * 6 + 4,none⟩ = some a4:=by rw [Nat.mul_comm];exact mm 4 (by omega)
       have m5 : w6.cell? ⟨g,k * 6 + 5,none⟩ = some a5:=by rw [Nat.mul_comm];exact mm 5 (by omega)
       have mf:=own6.frozenAt
       have HVV:=Lh hvv
       have HB6:=Lh ((hbr.alloc (by have:=hbr.size;omega) (.cells #[.int .i64 x.kind,.int .i64 x.n,.int .i64 x.g,.string ⟨x.s.toArray⟩,.slice p5 n5 e5,.slice p6 n6 e6] 36)).trans (hb6.mono (by simp;omega)))
       have HF6:=Lh (show ∀ b,g < b → b < wr.heap.size → w6.heap[b]? = wr.heap[b]? from fun b _ h2 => (hb6.block b (by simp;omega)).trans (Below.heap_alloc _ _ _ h2))
       have HO6:=Lh O6
       clear mm hvv O6 hb6 f0 f1 f2 f3 f4 f5 own
       go_upto_region 9 with fail
       obtain ⟨w7,hw7⟩ : ∃ w7,((((((w6.setCell ⟨g,k * 6,none⟩ (.int .i64 x.kind)).setCell ⟨g,k * 6 + 1,none⟩ (.int .i64 x.n)).setCell ⟨g,k * 6 + 2,none⟩ (.int .i64 x.g)).setCell ⟨g,k * 6 + 3,none⟩ (.string ⟨x.s.toArray⟩)).setCell ⟨g,k * 6 + 4,none⟩ (.slice p7 x.keys.length c7)).setCell ⟨g,k * 6 + 5,none⟩ (.slice p8 x.kids.length c8)) = w7:=⟨_,rfl⟩
       have t5:=((((((own6.stored (k * 6) (.int .i64 x.kind)).1.stored (k * 6 + 1) (.int .i64 x.n)).1.stored (k * 6 + 2) (.int .i64 x.g)).1.stored (k * 6 + 3) (.string ⟨x.s.toArray⟩)).1.stored (k * 6 + 4) (.slice p7 x.keys.length c7)).1.stored (k * 6 + 5) (.slice p8 x.kids.length c8)).1
       rw [flat_set' HC.out.2.1 (by rw [HC.out.1];exact hlt)] at t5
       have sg7:=set6_grown w6 g (k * 6) (k * 6 + 1) (k * 6 + 2) (k * 6 + 3) (k * 6 + 4) (k * 6 + 5) (.int .i64 x.kind) (.int .i64 x.n) (.int .i64 x.g) (.string ⟨x.s.toArray⟩) (.slice p7 x.keys.length c7) (.slice p8 x.kids.length c8)
       rw [hw7] at t5 sg7
       first
       | rw [hw7]
       | (simp only [Nat.zero_mul, Nat.zero_add] at hw7
          rw [hw7])
       have HB7:=Lh (HB6.out.grown sg7 (by omega) (fun k h => by cases h;exact Nat.le_refl _))
       have HOA:=Lh (show ∀ j cs y,j < k + 1 → (css.set k [.int .i64 x.kind,.int .i64 x.n,.int .i64 x.g,.string ⟨x.s.toArray⟩,.slice p7 x.keys.length c7,.slice p8 x.kids.length c8])[j]? = some cs → o.kids[j]? = some y → ObjAt (fun b => g < b) d w7 cs y from fun j cs y hj h1 h2 => by
         by_cases hjk : j = k
         · subst hjk
           rw [List.getElem?_set_self (by rw [HC.out.1];exact hlt)] at h1
           obtain rfl:=Option.some.inj h1
           rw [HX.out] at h2
           obtain rfl:=Option.some.inj h2
           exact HO6.out.grow (fun b h1 h2 => by
             simp only [World.size_alloc] at h1
             exact ⟨by omega,sg7.block b h2 (by simp;omega)⟩)
         · rw [List.getElem?_set_ne (by omega)] at h1
           exact (HC.out.2.2 j cs y (by omega) h1 h2).grow (fun b h1 h2 => ⟨h1,(sg7.block b (by omega) (by simp;omega)).trans (HF6.out b h1 h2)⟩))
       have HLE:=Lh (show (css.set k [.int .i64 x.kind,.int .i64 x.n,.int .i64 x.g,.string ⟨x.s.toArray⟩,.slice p7 x.keys.length c7,.slice p8 x.kids.length c8]).length = nk ∧ ∀ cs ∈ css.set k [.int .i64 x.kind,.int .i64 x.n,.int .i64 x.g,.string ⟨x.s.toArray⟩,.slice p7 x.keys.length c7,.slice p8 x.kids.length c8],cs.length = 6 from
         ⟨by rw [List.length_set];exact HC.out.1,fun cs h => by
           rcases List.mem_or_eq_of_mem_set h with h | rfl
           · exact HC.out.2.1 cs h
           · rfl⟩)
       clear hw7 sg7 m0 m1 m2 m3 m4 m5 mf own6 HB6 HF6 HO6 HVV
       go_wp2
       go_roundw
       case rel => exact ⟨k + 1,_,by omega,by go_num,HB7.out,t5,Lh ⟨HLE.out.1,HLE.out.2,HOA.out⟩⟩
       case measure => simp [intOf];omega
     · obtain rfl : k = nk:=by omega
       have G0:=(hbr.block _ (by omega)).trans F0
       have G1:=(hbr.block _ (by omega)).trans F1
       have HK6:=Lh (HK5.out.kept (w':=wr) (fun b h => hbr.block b (by have:=h.2;omega)))
       clear b0 b1 b2 b3 b4 b5 bf F0 F1 hbr
       obtain ⟨b0,b1,b2,b3,b4,b5,bf⟩:=six_of G0
       obtain ⟨r0,r1,r2,r3,r4,r5,rf⟩:=six_of G1
       go_upto_region 11 with fail
       obtain ⟨w8,hw8⟩ : ∃ w8,wr.setCell ⟨w.heap.size,5,none⟩ (.slice (some ⟨g,0,none⟩) k k) = w8:=⟨_,rfl⟩
       rw [hw8]
       have sg8:=set1_grown (a:=wr) (w:=wr) (b:=w.heap.size) ⟨rfl,rfl,rfl,Nat.le_refl _,fun _ _ _ => rfl⟩ 5 (.slice (some ⟨g,0,none⟩) k k)
       have H0:=set_fifth (v:=.slice (some ⟨g,0,none⟩) k k) G0
       rw [hw8] at sg8 H0
       have H1:=(sg8.block _ (lt_of_block G1) (by simp)).trans G1
       have hbw8 : Below w.heap.size w w8:=hbwr.grown sg8 hbwr.size (fun k h => by cases h;exact Nat.le_refl _)
       clear hw8 b0 b1 b2 b3 b4 b5 bf r0 r1 r2 r3 r4 r5 rf G0 G1
       obtain ⟨b0,b1,b2,b3,b4,b5,bf⟩:=six_of H0
       obtain ⟨r0,r1,r2,r3,r4,r5,rf⟩:=six_of H1
       go_wp2
       obtain ⟨w9,hw9⟩ : ∃ w9,((((((w8.setCell ⟨w.heap.size + 1,0,none⟩ (.int .i64 K)).setCell ⟨w.heap.size + 1,1,none⟩ (.int .i64 N)).setCell ⟨w.heap.size + 1,2,none⟩ (.int .i64 G)).setCell ⟨w.heap.size + 1,3,none⟩ (.string ss)).setCell ⟨w.heap.size + 1,4,none⟩ (.slice p3 n2 c3)).setCell ⟨w.heap.size + 1,5,none⟩ (.slice (some ⟨g,0,none⟩) k k)) = w9:=⟨_,rfl⟩
       rw [hw9]
       have sg9:=set6_grown w8 (w.heap.size + 1) 0 1 2 3 4 5 (.int .i64 K) (.int .i64 N) (.int .i64 G) (.string ss) (.slice p3 n2 c3) (.slice (some ⟨g,0,none⟩) k k)
       have Z1:=set_six (v0:=.int .i64 K) (v1:=.int .i64 N) (v2:=.int .i64 G) (v3:=.string ss) (v4:=.slice p3 n2 c3) (v5:=.slice (some ⟨g,0,none⟩) k k) H1
       rw [hw9] at sg9 Z1
       have hbw9 : Below w.heap.size w w9:=hbw8.grown sg9 hbw8.size (fun k h => by cases h;omega)
       clear hw9
       obtain ⟨s0,s1,s2,s3,s4,s5,sf⟩:=six_of Z1
       refine bodyPost_ret (v:=.agg #[.int .i64 K,.int .i64 N,.int .i64 G,.string ss,.slice p3 n2 c3,.slice (some ⟨g,0,none⟩) k k]) (by simp [results,Tryz.results94,go_sem,s0,s1,s2,s3,s4,s5]) rfl ?_
       have HK9:=HK6.out.kept (w':=w9) (fun b h => (sg9.block b (by have:=h.2;have:=sg8.size;omega) (by have:=h.1;simp;omega)).trans (sg8.block b (by have:=h.2;omega) (by have:=h.1;simp;omega)))
       have own9:=World.ownsRow.kept (World.ownsRow.kept own sg8 (.inr (by simp [Value.ownBlock];omega))) sg9 (.inr (by simp [Value.ownBlock];omega))
       have hsz8:=sg8.size
       have HKA : KidsAt (fun b => g < b) d w9 css o.kids:=⟨by rw [HC.out.1,HN.out.1],fun i cs y h1 h2 => ⟨HC.out.2.1 cs (List.mem_of_getElem? h1),(HC.out.2.2 i cs y (by have:=(List.getElem?_eq_some_iff.1 h1).1;rw [HC.out.1] at this;exact this) h1 h2).grow (fun b h1 h2 =>
         ⟨h1,(sg9.block b (by omega) (by simp;omega)).trans (sg8.block b h2 (by simp;omega))⟩)⟩⟩
       have HKR:=kids_at (S':=fun b => w.heap.size ≤ b) (acc:=o.kids) (by rw [HN.out.1];exact own9) HKA (fun b h => by omega) (fun b h => h)
       refine ⟨p3,c3,some ⟨g,0,none⟩,k,rfl,⟨.slice p3 n2 c3,.slice (some ⟨g,0,none⟩) k k,?_,HK9.weaken (fun b h _ => by have:=h.1;omega),HKR⟩,hbw9⟩
       rw [← HE.out.1,← HE.out.2.1,← HE.out.2.2.1]
open Go.RowKit Fo
theorem vcopy_in (S : Nat → Prop) : ∀ d,VCopy S d
 | 0 => fun _ _ _ h => h.elim
 | d + 1 => vcopy_step S d (vcopy_in S d)
theorem vClone_in (S : Nat → Prop) (d : Nat) (w : World) (cs : List Value) (o : Ob) (h : ObjAt S d w cs o) (ht : tameO d o) (hS : ∀ b, S b → b < w.heap.size) :
   Calls Tryz.prog 59 #[.agg cs.toArray] w (CopyOf d w o):=by
 have HC:=Lh (fun (W : World) (hW : Below w.heap.size w W) => vcopy_in S d W cs o (h.kept (fun b h => hW.block b (hS b h)) d) ht (fun b h => Nat.lt_of_lt_of_le (hS b h) hW.size))
 obtain ⟨p1,n1,c1,p2,n2,c2,rfl⟩:=h.shape
 unfold objCells at HC
 unfold objCells
 clear h ht hS
 go_enter Tryz.func59,Tryz.ntmps59
 go_upto_region 1 with fail
 obtain ⟨w0,hw0⟩ : ∃ w0,((w.alloc (.cells #[.int .i64 o.kind,.int .i64 o.n,.int .i64 o.g,.string ⟨o.s.toArray⟩,.slice p1 n1 c1,.slice p2 n2 c2] 36)).alloc (.cells #[.int .i64 0,.int .i64 0,.int .i64 0,.string ⟨#[]⟩,.slice none 0 0,.slice none 0 0] 36)) = w0:=⟨_,rfl⟩
 rw [hw0]
 have A0 : w0.heap[w.heap.size]? = some (.cells #[.int .i64 o.kind,.int .i64 o.n,.int .i64 o.g,.string ⟨o.s.toArray⟩,.slice p1 n1 c1,.slice p2 n2 c2] 36 (0,0)):=by
   rw [← hw0,Below.heap_alloc _ _ _ (by simp)];exact heap_new_at _ _ _ rfl
 have A1 : w0.heap[w.heap.size + 1]? = some (.cells #[.int .i64 0,.int .i64 0,.int .i64 0,.string ⟨#[]⟩,.slice none 0 0,.slice none 0 0] 36 (0,0)):=by
   rw [← hw0];exact heap_new_at _ _ _ (by simp)
 have hbw : Below w.heap.size w w0:=by rw [← hw0];exact bel
 have hz0 : w.heap.size + 2 ≤ w0.heap.size:=by rw [← hw0];simp
 clear hw0
 obtain ⟨b0,b1,b2,b3,b4,b5,bf⟩:=six_of A0
 go_wp2_with fail
 refine (HC.out _ hbw).mono ?_
 rintro e w1 ⟨q1,e1,q2,e2,rfl,O1,hb1⟩
 have B1:=(hb1.block _ (by omega)).trans A1
 have hbw1:=hbw.trans (hb1.mono hbw.size)
 have hz1:=hb1.size
 clear b0 b1 b2 b3 b4 b5 bf A0 A1 hbw hb1
 obtain ⟨b0,b1,b2,b3,b4,b5,bf⟩:=six_of B1
 have HO:=Lh O1
 clear O1
 go_wp2
 obtain ⟨w9,hw9⟩ : ∃ w9,((((((w1.setCell ⟨w.heap.size + 1,0,none⟩ (.int .i64 o.kind)).setCell ⟨w.heap.size + 1,1,none⟩ (.int .i64 o.n)).setCell ⟨w.heap.size + 1,2,none⟩ (.int .i64 o.g)).setCell ⟨w.heap.size + 1,3,none⟩ (.string ⟨o.s.toArray⟩)).setCell ⟨w.heap.size + 1,4,none⟩ (.slice q1 o.keys.length e1)).setCell ⟨w.heap.size + 1,5,none⟩ (.slice q2 o.kids.length e2)) = w9:=⟨_,rfl⟩
 rw [hw9]
 have sg9:=set6_grown w1 (w.heap.size + 1) 0 1 2 3 4 5 (.int .i64 o.kind) (.int .i64 o.n) (.int .i64 o.g) (.string ⟨o.s.toArray⟩) (.slice q1 o.keys.length e1) (.slice q2 o.kids.length e2)
 have Z1:=set_six (v0:=.int .i64 o.kind) (v1:=.int .i64 o.n) (v2:=.int .i64 o.g) (v3:=.string ⟨o.s.toArray⟩) (v4:=.slice q1 o.keys.length e1) (v5:=.slice q2 o.kids.length e2) B1
 rw [hw9] at sg9 Z1
 have hbw9 : Below w.heap.size w w9:=hbw1.grown sg9 hbw1.size (fun k h => by cases h;omega)
 clear hw9 b0 b1 b2 b3 b4 b5 bf
 obtain ⟨s0,s1,s2,s3,s4,s5,sf⟩:=six_of Z1
 refine bodyPost_ret (v:=.agg #[.int .i64 o.kind,.int .i64 o.n,.int .i64 o.g,.string ⟨o.s.toArray⟩,.slice q1 o.keys.length e1,.slice q2 o.kids.length e2]) (by simp [results,Tryz.results59,go_sem,s0,s1,s2,s3,s4,s5]) rfl ?_
 exact ⟨q1,e1,q2,e2,rfl,HO.out.grow (fun b h1 h2 => ⟨by omega,sg9.block b h2 (by simp;omega)⟩),hbw9⟩
theorem idx_eq (k : L) : ∀ (ks : List L) (i : Nat),Lib.idxFromS (ks.map fun x => (⟨x.toArray⟩ : ByteArray)) ⟨k.toArray⟩ i = match idxS ks k with | none => -1 | some j => ((i + j : Nat) : Int)
 | [],i => by simp [Lib.idxFromS,idxS]
 | x :: ks,i => by
   have ih:=idx_eq k ks (i + 1)
   have e : ((⟨x.toArray⟩ : ByteArray) = ⟨k.toArray⟩) ↔ x = k:=by
     constructor
     · intro h;have:=congrArg (fun b : ByteArray => b.data.toList) h;simpa using this
     · rintro rfl;rfl
   by_cases h : x = k
   · subst h;simp [Lib.idxFromS,idxS]
   · have hb : ¬ ((⟨x.toArray⟩ : ByteArray) = ⟨k.toArray⟩):=fun h' => h (e.1 h')
     rw [List.map_cons,Lib.idxFromS,idxS,if_neg h]
     first | rw [if_neg hb] | rw [if_neg (by simpa using hb)]
     rw [ih]
     cases idxS ks k with
     | none => rfl
     | some j => show ((i + 1 + j : Nat) : Int) = ((i + (j + 1) : Nat) : Int);congr 1;omega
def idxV (r : Option Nat) : Int:=match r with | none => -1 | some j => (j : Int)
theorem keys_index (S : Nat → Prop) (kv : Value) (ks : List L) (key : L) (w : World) (h : KeysAt S w kv ks) (hn : ks.length ≤ 8192) :
   Calls Tryz.prog 67 #[kv,.string ⟨key.toArray⟩] w fun e w' => e = .returned (.int .i64 (idxV (idxS ks key))) ∧ w' = w:=by
 rcases h with ⟨rfl,p,c,rfl⟩ | ⟨b,o,c,rfl,hb,hc⟩
 · exact Tryz.slices_Index_string_empty p c ⟨key.toArray⟩ w
 · refine (Tryz.slices_Index_string b o ks.length c (ks.map fun x => (⟨x.toArray⟩ : ByteArray)) ⟨key.toArray⟩ w (by simp) (by omega) (fun j hj => by
     have hj2 : j < ks.length:=by simpa using hj
     rw [hc j hj2];simp [List.getD,hj2])).mono ?_
   rintro e w' ⟨rfl,rfl⟩
   refine ⟨?_,rfl⟩
   rw [List.take_of_length_le (by simp)]
   have:=idx_eq key ks 0
   unfold Lib.idxOfS
   rw [this]
   unfold idxV
   cases idxS ks key with
   | none => rfl
   | some j => simp
def GetOut (d : Nat) (w : World) (r : Option Ob) (e : Ending) (w' : World) : Prop :=
 match r with
 | none => e = .returned (.tuple #[.agg #[.int .i64 0,.int .i64 0,.int .i64 0,.string ⟨#[]⟩,.slice none 0 0,.slice none 0 0],.bool false]) ∧ Below w.heap.size w w'
 | some x => ∃ p1 c1 p2 c2, e = .returned (.tuple #[.agg #[.int .i64 x.kind, .int .i64 x.n, .int .i64 x.g, .string ⟨x.s.toArray⟩, .slice p1 x.keys.length c1, .slice p2 x.kids.length c2], .bool true]) ∧
     ObjAt (fun b => w.heap.size ≤ b) d w' (objCells x.kind x.n x.g x.s (.slice p1 x.keys.length c1) (.slice p2 x.kids.length c2)) x ∧ Below w.heap.size w w'
theorem vGet_in (S : Nat → Prop) (d : Nat) (w : World) (cs : List Value) (o : Ob) (key : L) (h : ObjAt S (d + 1) w cs o) (ht : tameO (d + 1) o) (hS : ∀ b, S b → b < w.heap.size) :
   Calls Tryz.prog 38 #[.agg cs.toArray,.string ⟨key.toArray⟩] w (GetOut d w (getO o key)):=by
 obtain ⟨kv,dv,rfl,hK,hR0⟩:=h
 have hR : RowAt S d w dv o.kids:=hR0
 clear hR0
 obtain ⟨t1,t2,t3⟩:=ht
 have a1 : ∃ p c,kv = .slice p o.keys.length c:=by
   rcases hK with ⟨e,p,c,h⟩ | ⟨b,o,c,h,_⟩
   · exact ⟨_,_,by rw [e];exact h⟩
   · exact ⟨_,_,h⟩
 have a2 : ∃ p c,dv = .slice p o.kids.length c:=by
   rcases hR with ⟨e,p,c,h⟩ | ⟨b,o,c,h,_⟩
   · exact ⟨_,_,by rw [e];exact h⟩
   · exact ⟨_,_,h⟩
 obtain ⟨p1,c1,rfl⟩:=a1
 obtain ⟨p2,c2,rfl⟩:=a2
 have HKD:=Lh (fun W => keyed_in o p1 p2 o.keys.length c1 o.kids.length c2 W)
 have HIX:=Lh (fun W (hW : Below w.heap.size w W) => keys_index S _ o.keys key W (hK.kept (fun b h => hW.block b (hS b h))) t1)
 have HRW:=Lh (And.intro hR (And.intro t3 hS))
 obtain ⟨R,hRR⟩ : ∃ R,getO o key = R:=⟨_,rfl⟩
 rw [hRR]
 have HG:=Lh (show (if dictB o then (match idxS o.keys key with | none => none | some i => o.kids[i]?) else none) = R from hRR)
 have HT1:=Lh t1
 have HDB:=Lh (show dictB o = (o.kind == 7 || o.kind == 9) from rfl)
 rw [← HDB.out] at HKD
 unfold objCells
 obtain ⟨nk,hnk⟩ : ∃ nk,o.kids.length = nk:=⟨_,rfl⟩
 obtain ⟨n2,hn2⟩ : ∃ n2,o.keys.length = n2:=⟨_,rfl⟩
 obtain ⟨ss,hs0⟩ : ∃ ss : ByteArray,(⟨o.s.toArray⟩ : ByteArray) = ss:=⟨_,rfl⟩
 obtain ⟨ke,hke⟩ : ∃ ke : ByteArray,(⟨key.toArray⟩ : ByteArray) = ke:=⟨_,rfl⟩
 rw [hnk,hn2,hs0] at HKD ⊢
 rw [hn2,hke] at HIX
 rw [hnk] at HRW t2
 rw [hke]
 have HN:=Lh hnk
 clear hK hR hS t1 t3 hnk hn2 hs0 hke hRR
 obtain ⟨K,hk0⟩ : ∃ K,o.kind = K:=⟨_,rfl⟩
 obtain ⟨N,hN0⟩ : ∃ N,o.n = N:=⟨_,rfl⟩
 obtain ⟨G,hG0⟩ : ∃ G,o.g = G:=⟨_,rfl⟩
 rw [hk0,hN0,hG0] at HKD ⊢
 clear hk0 hN0 hG0
 go_enter Tryz.func38,Tryz.ntmps38
 go_upto_region 1 with fail
 obtain ⟨w0,hw0⟩ : ∃ w0,((w.alloc (.cells #[.int .i64 K,.int .i64 N,.int .i64 G,.string ss,.slice p1 n2 c1,.slice p2 nk c2] 36)).alloc (.cells #[.int .i64 0,.int .i64 0,.int .i64 0,.string ⟨#[]⟩,.slice none 0 0,.slice none 0 0] 36)) = w0:=⟨_,rfl⟩
 rw [hw0]
 have A0 : w0.heap[w.heap.size]? = some (.cells #[.int .i64 K,.int .i64 N,.int .i64 G,.string ss,.slice p1 n2 c1,.slice p2 nk c2] 36 (0,0)):=by
   rw [← hw0,Below.heap_alloc _ _ _ (by simp)];exact heap_new_at _ _ _ rfl
 have A1 : w0.heap[w.heap.size + 1]? = some (.cells #[.int .i64 0,.int .i64 0,.int .i64 0,.string ⟨#[]⟩,.slice none 0 0,.slice none 0 0] 36 (0,0)):=by
   rw [← hw0];exact heap_new_at _ _ _ (by simp)
 have hbw : Below w.heap.size w w0:=by rw [← hw0];exact bel
 have hz0 : w.heap.size + 2 ≤ w0.heap.size:=by rw [← hw0];simp
 clear hw0
 obtain ⟨b0,b1,b2,b3,b4,b5,bf⟩:=six_of A0
 go_wp2_with fail
 refine (HKD.out _).mono ?_
 rintro e w1 ⟨rfl,hb1⟩
 have B0:=(hb1.block _ (by omega)).trans A0
 have B1:=(hb1.block _ (by omega)).trans A1
 have hbw1:=hbw.trans (hb1.mono hbw.size)
 have hz1:=hb1.size
 clear b0 b1 b2 b3 b4 b5 bf A0 A1 hbw hb1 HKD
 obtain ⟨b0,b1,b2,b3,b4,b5,bf⟩:=six_of B0
 obtain ⟨r0,r1,r2,r3,r4,r5,rf⟩:=six_of B1
 have hG:=HG.out
 cases hdb : dictB o
 · obtain rfl : none = R:=by rw [← hG,hdb];rfl
   clear hG hdb HG HIX HRW
   unfold GetOut
   go_wp2
   obtain ⟨w9,hw9⟩ : ∃ w9,((((((w1.setCell ⟨w.heap.size + 1,0,none⟩ (.int .i64 0)).setCell ⟨w.heap.size + 1,1,none⟩ (.int .i64 0)).setCell ⟨w.heap.size + 1,2,none⟩ (.int .i64 0)).setCell ⟨w.heap.size + 1,3,none⟩ (.string ⟨#[]⟩)).setCell ⟨w.heap.size + 1,4,none⟩ (.slice none 0 0)).setCell ⟨w.heap.size + 1,5,none⟩ (.slice none 0 0)) = w9:=⟨_,rfl⟩
   rw [hw9]
   have sg9:=set6_grown w1 (w.heap.size + 1) 0 1 2 3 4 5 (.int .i64 0) (.int .i64 0) (.int .i64 0) (.string ⟨#[]⟩) (.slice none 0 0) (.slice none 0 0)
   have Z1:=set_six (v0:=.int .i64 0) (v1:=.int .i64 0) (v2:=.int .i64 0) (v3:=.string ⟨#[]⟩) (v4:=.slice none 0 0) (v5:=.slice none 0 0) B1
   rw [hw9] at sg9 Z1
   have hbw9 : Below w.heap.size w w9:=hbw1.grown sg9 hbw1.size (fun k h => by cases h;omega)
   clear hw9 b0 b1 b2 b3 b4 b5 bf r0 r1 r2 r3 r4 r5 rf
   obtain ⟨s0,s1,s2,s3,s4,s5,sf⟩:=six_of Z1
   refine bodyPost_ret (v:=.tuple #[.agg #[.int .i64 0,.int .i64 0,.int .i64 0,.string ⟨#[]⟩,.slice none 0 0,.slice none 0 0],.bool false]) (by simp [results,Tryz.results38,go_sem,s0,s1,s2,s3,s4,s5]) rfl ⟨rfl,hbw9⟩
 · rw [hdb,if_pos rfl] at hG
   cases hix : idxS o.keys key with
   | none =>
     rw [hix] at hG HIX
     obtain rfl : none = R:=hG
     unfold idxV at HIX
     clear hdb HG HRW hix
     unfold GetOut
     go_wp2_with fail
     refine (HIX.out _ hbw1).mono ?_
     rintro e w2 ⟨rfl,h2⟩
     obtain rfl:=h2.symm
     go_wp2
     obtain ⟨w9,hw9⟩ : ∃ w9,((((((w1.setCell ⟨w.heap.size + 1,0,none⟩ (.int .i64 0)).setCell ⟨w.heap.size + 1,1,none⟩ (.int .i64 0)).setCell ⟨w.heap.size + 1,2,none⟩ (.int .i64 0)).setCell ⟨w.heap.size + 1,3,none⟩ (.string ⟨#[]⟩)).setCell ⟨w.heap.size + 1,4,none⟩ (.slice none 0 0)).setCell ⟨w.heap.size + 1,5,none⟩ (.slice none 0 0)) = w9:=⟨_,rfl⟩
     rw [hw9]
     have sg9:=set6_grown w1 (w.heap.size + 1) 0 1 2 3 4 5 (.int .i64 0) (.int .i64 0) (.int .i64 0) (.string ⟨#[]⟩) (.slice none 0 0) (.slice none 0 0)
     have Z1:=set_six (v0:=.int .i64 0) (v1:=.int .i64 0) (v2:=.int .i64 0) (v3:=.string ⟨#[]⟩) (v4:=.slice none 0 0) (v5:=.slice none 0 0) B1
     rw [hw9] at sg9 Z1
     have hbw9 : Below w.heap.size w w9:=hbw1.grown sg9 hbw1.size (fun k h => by cases h;omega)
     clear hw9 b0 b1 b2 b3 b4 b5 bf r0 r1 r2 r3 r4 r5 rf
     obtain ⟨s0,s1,s2,s3,s4,s5,sf⟩:=six_of Z1
     refine bodyPost_ret (v:=.tuple #[.agg #[.int .i64 0,.int .i64 0,.int .i64 0,.string ⟨#[]⟩,.slice none 0 0,.slice none 0 0],.bool false]) (by simp [results,Tryz.results38,go_sem,s0,s1,s2,s3,s4,s5]) rfl ⟨rfl,hbw9⟩
   | some i =>
     rw [hix] at hG HIX
     have hli : i < 8193:=by
       have h1:=(idxS_spec hix).1
       have h2:=HT1.out
       omega
     unfold idxV at HIX
     have d0 : decide ((i : Int) < 0) = false:=by simp
     clear hdb HG hix
     by_cases hin : i < nk
     · have d1 : decide (nk ≤ i) = false:=by simp;omega
       have hRw : RowAt S d w1 (.slice p2 nk c2) o.kids:=HRW.out.1.kept (fun b h => hbw1.block b (HRW.out.2.2 b h))
       obtain ⟨b,off,rfl⟩ : ∃ b off,p2 = some ⟨b,off,none⟩:=by
         rcases hRw with ⟨e,_⟩ | ⟨b,off,c,e,_⟩
         · have:=HN.out;rw [e] at this;simp at this;omega
         · cases e;exact ⟨_,_,rfl⟩
       obtain ⟨x,p5,n5,e5,p6,n6,e6,hx,hxm,s1,O1,f0,f1,f2,f3,f4,f5⟩:=row_kid hRw HN.out i hin
       have hS2 : ∀ b,S b → b < w1.heap.size:=fun b h => Nat.lt_of_lt_of_le (HRW.out.2.2 b h) hbw1.size
       have HCL:=Lh (vClone_in S d w1 _ x O1 (HRW.out.2.1 x hxm) hS2)
       obtain rfl : some x = R:=by
         rw [← hG]
         have hk' : i < o.kids.length:=by rw [HN.out];exact hin
         rw [List.getD_eq_getElem?_getD,List.getElem?_eq_getElem hk'] at hx
         show some x = o.kids[i]?
         rw [List.getElem?_eq_getElem hk']
         exact congrArg some hx.symm
       unfold objCells at HCL
       unfold GetOut
       clear hRw hx hxm O1 hS2 hG HRW B0 r0 r1 r2 r3 r4 r5 rf
       go_wp2_with ((go_at_call 67;refine (HIX.out _ hbw1).mono ?_);rintro e w2 ⟨rfl,h2⟩;obtain rfl:=h2.symm)
       refine HCL.out.mono ?_
       rintro e w3 ⟨q1,e1,q2,e2,rfl,O3,hb3⟩
       have C1:=(hb3.block _ (by omega)).trans B1
       have hbw3:=hbw1.trans (hb3.mono hbw1.size)
       have HO:=Lh O3
       have hz3:=hb3.size
       clear O3 hb3 B1 b0 b1 b2 b3 b4 b5 bf f0 f1 f2 f3 f4 f5
       obtain ⟨r0,r1,r2,r3,r4,r5,rf⟩:=six_of C1
       go_wp2
       obtain ⟨w9,hw9⟩ : ∃ w9,((((((w3.setCell ⟨w.heap.size + 1,0,none⟩ (.int .i64 x.kind)).setCell ⟨w.heap.size + 1,1,none⟩ (.int .i64 x.n)).setCell ⟨w.heap.size + 1,2,none⟩ (.int .i64 x.g)).setCell ⟨w.heap.size + 1,3,none⟩ (.string ⟨x.s.toArray⟩)).setCell ⟨w.heap.size + 1,4,none⟩ (.slice q1 x.keys.length e1)).setCell ⟨w.heap.size + 1,5,none⟩ (.slice q2 x.kids.length e2)) = w9:=⟨_,rfl⟩
       rw [hw9]
       have sg9:=set6_grown w3 (w.heap.size + 1) 0 1 2 3 4 5 (.int .i64 x.kind) (.int .i64 x.n) (.int .i64 x.g) (.string ⟨x.s.toArray⟩) (.slice q1 x.keys.length e1) (.slice q2 x.kids.length e2)
       have Z1:=set_six (v0:=.int .i64 x.kind) (v1:=.int .i64 x.n) (v2:=.int .i64 x.g) (v3:=.string ⟨x.s.toArray⟩) (v4:=.slice q1 x.keys.length e1) (v5:=.slice q2 x.kids.length e2) C1
       rw [hw9] at sg9 Z1
       have hbw9 : Below w.heap.size w w9:=hbw3.grown sg9 hbw3.size (fun k h => by cases h;omega)
       clear hw9 r0 r1 r2 r3 r4 r5 rf
       obtain ⟨s0,s1,s2,s3,s4,s5,sf⟩:=six_of Z1
       refine bodyPost_ret (v:=.tuple #[.agg #[.int .i64 x.kind,.int .i64 x.n,.int .i64 x.g,.string ⟨x.s.toArray⟩,.slice q1 x.keys.length e1,.slice q2 x.kids.length e2],.bool true]) (by simp [results,Tryz.results38,go_sem,s0,s1,s2,s3,s4,s5]) rfl ?_
       exact ⟨q1,e1,q2,e2,rfl,HO.out.grow (fun b h1 h2 => ⟨by omega,sg9.block b h2 (by simp;omega)⟩),hbw9⟩
     · have d1 : decide (nk ≤ i) = true:=by simp;omega
       obtain rfl : none = R:=by
         rw [← hG]
         show none = o.kids[i]?
         rw [List.getElem?_eq_none (by rw [HN.out];omega)]
       clear hG HRW
       unfold GetOut
       go_wp2_with fail
       refine (HIX.out _ hbw1).mono ?_
       rintro e w2 ⟨rfl,h2⟩
       obtain rfl:=h2.symm
       go_wp2
       obtain ⟨w9,hw9⟩ : ∃ w9,((((((w1.setCell ⟨w.heap.size + 1,0,none⟩ (.int .i64 0)).setCell ⟨w.heap.size + 1,1,none⟩ (.int .i64 0)).setCell ⟨w.heap.size + 1,2,none⟩ (.int .i64 0)).setCell ⟨w.heap.size + 1,3,none⟩ (.string ⟨#[]⟩)).setCell ⟨w.heap.size + 1,4,none⟩ (.slice none 0 0)).setCell ⟨w.heap.size + 1,5,none⟩ (.slice none 0 0)) = w9:=⟨_,rfl⟩
       rw [hw9]
       have sg9:=set6_grown w1 (w.heap.size + 1) 0 1 2 3 4 5 (.int .i64 0) (.int .i64 0) (.int .i64 0) (.string ⟨#[]⟩) (.slice none 0 0) (.slice none 0 0)
       have Z1:=set_six (v0:=.int .i64 0) (v1:=.int .i64 0) (v2:=.int .i64 0) (v3:=.string ⟨#[]⟩) (v4:=.slice none 0 0) (v5:=.slice none 0 0) B1
       rw [hw9] at sg9 Z1
       have hbw9 : Below w.heap.size w w9:=hbw1.grown sg9 hbw1.size (fun k h => by cases h;omega)
       clear hw9 b0 b1 b2 b3 b4 b5 bf r0 r1 r2 r3 r4 r5 rf
       obtain ⟨s0,s1,s2,s3,s4,s5,sf⟩:=six_of Z1
       refine bodyPost_ret (v:=.tuple #[.agg #[.int .i64 0,.int .i64 0,.int .i64 0,.string ⟨#[]⟩,.slice none 0 0,.slice none 0 0],.bool false]) (by simp [results,Tryz.results38,go_sem,s0,s1,s2,s3,s4,s5]) rfl ⟨rfl,hbw9⟩
open Go.RowKit Fo
theorem tame_of {S : Nat → Prop} {w : World} : ∀ (d n : Nat) (cs : List Value) (o : Ob),ObjAt S d w cs o → checkB n o = 0 → tameO d o
 | 0,_,_,_,h,_ => h.elim
 | d + 1,n,cs,o,h,hc => by
   obtain ⟨kv,dv,_,_,h3⟩:=h
   cases n with
   | zero => unfold checkB at hc;cases hc
   | succ n =>
     have hk:=(checkB_iff n o).1 hc
     refine ⟨?_,Nat.le_trans hk.many (by decide),fun x hx => ?_⟩
     · have hu:=hk.uses
       by_cases h79 : o.kind = 7 ∨ o.kind = 9
       · have:=((keysB_iff o h79).1 hk.keys).len
         have:=hk.many
         omega
       · have he : o.keys = [] := by
           rw [← usesP_eq] at hu
           unfold usesP at hu
           obtain ⟨⟨un,ug,us,uk,ud,ok⟩,hT⟩ : ∃ u,usedV o.kind = u:=⟨_,rfl⟩
           have huk:=used_keys hT
           rw [hT] at hu
           rw [decide_eq_false h79] at huk
           subst huk
           simp at hu
           simp_all
         rw [he];decide
     · rcases h3 with ⟨e,_⟩ | ⟨b,off,c,_,_,h6⟩
       · rw [e] at hx;cases hx
       · obtain ⟨i,hi,rfl⟩:=List.mem_iff_getElem.1 hx
         obtain ⟨ks,_,_,g3⟩:=h6 i hi
         exact tame_of d n ks _ g3 (hk.kids _ (List.getElem_mem hi))
end Go.Proofs.YtinafodpgjbedaaGreatDoor
