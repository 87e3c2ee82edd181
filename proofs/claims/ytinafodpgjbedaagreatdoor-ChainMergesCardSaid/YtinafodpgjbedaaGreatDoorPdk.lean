/- Parts of the proof: KnA TrP SzR ChL ChE TbF ChJ ChR ChW ChK ChH. -/
import Derived.Test.YtinafodpgjbedaaGreatDoorPda
import Derived.Test.YtinafodpgjbedaaGreatDoorPdTrR
import Derived.Test.YtinafodpgjbedaaGreatDoorPdi
import Derived.Test.YtinafodpgjbedaaGreatDoorPdh
import Derived.Test.YtinafodpgjbedaaGreatDoorPdf
import Derived.Test.YtinafodpgjbedaaGreatDoorPdj
import Derived.Test.YtinafodpgjbedaaGreatDoorPdd
import Derived.Deep.OwnRows
import Derived.Test.YtinafodpgjbedaaGreatDoorPde
import Derived.Laws.OwnMore
set_option linter.all false
set_option maxRecDepth 100000
set_option maxHeartbeats 8000000
namespace Go.Proofs.YtinafodpgjbedaaGreatDoor
open Go.RowKit Fo
theorem known_in (w : World) : Calls Tryz.prog 37 #[] w fun e w' => e = .returned (.slice (some ⟨w.heap.size,0,none⟩) 3 3) ∧ w' = w.alloc (.cells #[.string ⟨#[73,68]⟩,.string ⟨#[73,110,102,111]⟩,.string ⟨#[82,111,111,116]⟩] 9):=by
 go_enter Tryz.func37,Tryz.ntmps37
 go_wp2
 go_ret
 exact ⟨rfl,rfl⟩
open Go.RowKit Fo
theorem OvsAt.grow {S S' : Nat → Prop} {d : Nat} {w w' : World} {vs : List Ov} {os : List Ob} (h : OvsAt S d w vs os) (hk : ∀ b,S b → b < w.heap.size → S' b ∧ w'.heap[b]? = w.heap[b]?) : OvsAt S' d w' vs os :=
 ⟨h.1,fun i v o hv ho => (h.2 i v o hv ho).grow hk⟩
theorem pickP_succ (o : Ob) (k : Nat) (x : L) (hx : trailK[k]? = some x) : pickP o (k + 1) = pickP o k ++ (match getO o x with | none => [] | some v => [(x,v)]):=by
 unfold pickP
 rw [List.take_succ,hx,List.filterMap_append]
 congr 1
 rw [show some x = some x from rfl,Option.toList_some,List.filterMap_cons,List.filterMap_nil]
 cases getO o x <;> rfl
theorem pickP_len (o : Ob) (k : Nat) (hk : k ≤ 3) : (pickP o k).length ≤ 3:=by
 unfold pickP
 refine Nat.le_trans (List.length_filterMap_le _ _) ?_
 simp;omega
theorem trail_at {w : World} {kb : Nat} (h : w.heap[kb]? = some (.cells #[.string ⟨#[73, 68]⟩, .string ⟨#[73, 110, 102, 111]⟩, .string ⟨#[82, 111, 111, 116]⟩] 9 (0, 0))) (k : Nat) (hk : k < 3) :
   ∃ x : L,trailK[k]? = some x ∧ w.cell? ⟨kb,k,none⟩ = some (.string ⟨x.toArray⟩):=by
 have h3 : k = 0 ∨ k = 1 ∨ k = 2:=by omega
 rcases h3 with rfl | rfl | rfl
 · exact ⟨_,rfl,by simp [World.cell?,h,wID]⟩
 · exact ⟨_,rfl,by simp [World.cell?,h,wInfo]⟩
 · exact ⟨_,rfl,by simp [World.cell?,h,wRoot]⟩
def ApartS (B : Nat) (kv lv : Value) (b : Nat) : Prop:=B ≤ b ∧ kv.ownBlock ≠ some b ∧ lv.ownBlock ≠ some b
def TrOut (S : Nat → Prop) (d : Nat) (w : World) (T : Ob) (e : Ending) (w' : World) : Prop :=
 ∃ q1 e1 m1 q2 e2 m2,e = .returned (.agg #[.int .i64 7,.int .i64 0,.int .i64 0,.string ⟨#[]⟩,.slice q1 e1 m1,.slice q2 e2 m2]) ∧ ObjAt S d w' (objCells 7 0 0 [] (.slice q1 e1 m1) (.slice q2 e2 m2)) T ∧ Below w.heap.size w w'
theorem trOut_nil {S : Nat → Prop} {d : Nat} {w w' : World} (hb : Below w.heap.size w w') : TrOut S (d + 1) w (ofPairs []) (.returned (.agg #[.int .i64 7,.int .i64 0,.int .i64 0,.string ⟨#[]⟩,.slice none 0 0,.slice none 0 0])) w' :=
 ⟨none,0,0,none,0,0,rfl,⟨_,_,rfl,.inl ⟨rfl,_,_,rfl⟩,.inl ⟨rfl,_,_,rfl⟩⟩,hb⟩
theorem dtrailer_none (S : Nat → Prop) (d : Nat) (w : World) (cs : List Value) (o : Ob) (h : ObjAt S (d + 1) w cs o) (hsm : smallO (d + 1) o) (hS : ∀ b, S b → b < w.heap.size) (hno : (dictB o && checkB 24 o == 0) = false) :
   Calls Tryz.prog 26 #[.agg cs.toArray] w (TrOut (fun b => w.heap.size ≤ b) (d + 1) w (trailT o)):=by
 have HT:=Lh (show trailT o = ofPairs [] by unfold trailT;rw [hno,if_neg (by decide)])
 have HC:=Lh (fun (W : World) (hW : Below w.heap.size w W) => vCheck_in S (d + 1) W cs o (h.kept (fun b h => hW.block b (hS b h)) _) hsm (fun b h => Nat.lt_of_lt_of_le (hS b h) hW.size))
 obtain ⟨p1,n1,c1,p2,n2,c2,rfl⟩:=h.shape
 unfold objCells at HC
 unfold objCells
 have HN:=Lh hno
 clear h hsm hS hno
 cases hd : dictB o
 · have HD:=Lh hd
   obtain ⟨K,hK⟩ : ∃ K,o.kind = K:=⟨_,rfl⟩
   have d7 : (K != 7) = true:=by rw [← hK];unfold dictB at hd;simp at hd ⊢;exact hd.1
   have d9 : (K != 9) = true:=by rw [← hK];unfold dictB at hd;simp at hd ⊢;exact hd.2
   have n7 : ¬ K = 7:=by simpa using d7
   have n9 : ¬ K = 9:=by simpa using d9
   rw [hK]
   clear hd hK HC
   go_enter Tryz.func26,Tryz.ntmps26
   go_upto_region 2 with fail
   obtain ⟨w1,hw1⟩ : ∃ w1,((w.alloc (.cells #[.int .i64 K,.int .i64 o.n,.int .i64 o.g,.string ⟨o.s.toArray⟩,.slice p1 n1 c1,.slice p2 n2 c2] 36)).alloc (.cells #[.int .i64 0,.int .i64 0,.int .i64 0,.string ⟨#[]⟩,.slice none 0 0,.slice none 0 0] 36)).alloc (.cells #[.int .i64 7,.int .i64 0,.int .i64 0,.string ⟨#[]⟩,.slice none 0 0,.slice none 0 0] 36) = w1:=⟨_,rfl⟩
   have hbw1 : Below w.heap.size w w1:=by rw [← hw1];exact bel
   have hz1 : w.heap.size + 3 ≤ w1.heap.size:=by rw [← hw1];simp
   have B1 : w1.heap[w.heap.size + 1]? = some (.cells #[.int .i64 0,.int .i64 0,.int .i64 0,.string ⟨#[]⟩,.slice none 0 0,.slice none 0 0] 36 (0,0)):=by rw [← hw1];exact (Below.heap_alloc _ _ _ (by simp)).trans (heap_new_at _ _ _ (by simp))
   have B2 : w1.heap[w.heap.size + 2]? = some (.cells #[.int .i64 7,.int .i64 0,.int .i64 0,.string ⟨#[]⟩,.slice none 0 0,.slice none 0 0] 36 (0,0)):=by rw [← hw1];exact heap_new_at _ _ _ (by simp)
   have B0 : w1.heap[w.heap.size]? = some (.cells #[.int .i64 K,.int .i64 o.n,.int .i64 o.g,.string ⟨o.s.toArray⟩,.slice p1 n1 c1,.slice p2 n2 c2] 36 (0,0)):=by rw [← hw1];exact (Below.heap_alloc _ _ _ (by simp;omega)).trans ((Below.heap_alloc _ _ _ (by simp)).trans (heap_new_at _ _ _ rfl))
   obtain ⟨x0,x1,x2,x3,x4,x5,xf⟩:=six_of B2
   obtain ⟨z0,z1,z2,z3,z4,z5,zf⟩:=six_of B1
   obtain ⟨t0,t1,t2,t3,t4,t5,tf⟩:=six_of B0
   rw [hw1]
   clear hw1
   go_wp2
   obtain ⟨w9,hw9⟩ : ∃ w9,((((((w1.setCell ⟨w.heap.size + 1,0,none⟩ (.int .i64 7)).setCell ⟨w.heap.size + 1,1,none⟩ (.int .i64 0)).setCell ⟨w.heap.size + 1,2,none⟩ (.int .i64 0)).setCell ⟨w.heap.size + 1,3,none⟩ (.string ⟨#[]⟩)).setCell ⟨w.heap.size + 1,4,none⟩ (.slice none 0 0)).setCell ⟨w.heap.size + 1,5,none⟩ (.slice none 0 0)) = w9:=⟨_,rfl⟩
   rw [hw9]
   have sg9:=set6_grown w1 (w.heap.size + 1) 0 1 2 3 4 5 (.int .i64 7) (.int .i64 0) (.int .i64 0) (.string ⟨#[]⟩) (.slice none 0 0) (.slice none 0 0)
   have Z1:=set_six (v0:=.int .i64 7) (v1:=.int .i64 0) (v2:=.int .i64 0) (v3:=.string ⟨#[]⟩) (v4:=.slice none 0 0) (v5:=.slice none 0 0) B1
   rw [hw9] at sg9 Z1
   have hbw9 : Below w.heap.size w w9:=hbw1.grown sg9 hbw1.size (fun k h => by cases h;omega)
   clear hw9 x0 x1 x2 x3 x4 x5 xf z0 z1 z2 z3 z4 z5 zf
   obtain ⟨s0,s1,s2,s3,s4,s5,sf⟩:=six_of Z1
   refine bodyPost_ret (v:=.agg #[.int .i64 7,.int .i64 0,.int .i64 0,.string ⟨#[]⟩,.slice none 0 0,.slice none 0 0]) (by simp [results,Tryz.results26,go_sem,s0,s1,s2,s3,s4,s5]) rfl ?_
   rw [HT.out]
   exact trOut_nil hbw9
 · have hc : checkB 24 o ≠ 0:=by intro h;have:=HN.out;rw [hd,h] at this;cases this
   obtain ⟨C,hC⟩ : ∃ C,checkB 24 o = C:=⟨_,rfl⟩
   rw [hC] at HC hc
   have hcC : (C != 0) = true:=by simpa using hc
   obtain ⟨K,hK⟩ : ∃ K,o.kind = K:=⟨_,rfl⟩
   rw [hK] at HC ⊢
   have h79 : K = 7 ∨ K = 9:=by rw [← hK];unfold dictB at hd;simpa using hd
   clear hd hK hC HN
   rcases h79 with h7 | h9
   · have d7 : (K != 7) = false:=by simpa using h7
     clear h7
     go_enter Tryz.func26,Tryz.ntmps26
     go_wp2_with fail
     refine (HC.out _ bel).mono ?_
     rintro e w1 ⟨rfl,hb1⟩
     have hz1:=hb1.size
     simp at hz1
     have B0 : w1.heap[w.heap.size]? = some (.cells #[.int .i64 K,.int .i64 o.n,.int .i64 o.g,.string ⟨o.s.toArray⟩,.slice p1 n1 c1,.slice p2 n2 c2] 36 (0,0)):=(hb1.block _ (by first | (simp;done) | (simp;omega))).trans ((Below.heap_alloc _ _ _ (by first | (simp;done) | (simp;omega))).trans ((Below.heap_alloc _ _ _ (by simp)).trans (heap_new_at _ _ _ rfl)))
     have B1 : w1.heap[w.heap.size + 1]? = some (.cells #[.int .i64 0,.int .i64 0,.int .i64 0,.string ⟨#[]⟩,.slice none 0 0,.slice none 0 0] 36 (0,0)):=(hb1.block _ (by first | (simp;done) | (simp;omega))).trans ((Below.heap_alloc _ _ _ (by simp)).trans (heap_new_at _ _ _ (by simp)))
     have B2 : w1.heap[w.heap.size + 2]? = some (.cells #[.int .i64 7,.int .i64 0,.int .i64 0,.string ⟨#[]⟩,.slice none 0 0,.slice none 0 0] 36 (0,0)):=(hb1.block _ (by first | (simp;done) | (simp;omega))).trans (heap_new_at _ _ _ (by simp))
     have hbw1 : Below w.heap.size w w1:=bel
     clear hb1
     obtain ⟨x0,x1,x2,x3,x4,x5,xf⟩:=six_of B2
     obtain ⟨z0,z1,z2,z3,z4,z5,zf⟩:=six_of B1
     go_wp2
     obtain ⟨w9,hw9⟩ : ∃ w9,((((((w1.setCell ⟨w.heap.size + 1,0,none⟩ (.int .i64 7)).setCell ⟨w.heap.size + 1,1,none⟩ (.int .i64 0)).setCell ⟨w.heap.size + 1,2,none⟩ (.int .i64 0)).setCell ⟨w.heap.size + 1,3,none⟩ (.string ⟨#[]⟩)).setCell ⟨w.heap.size + 1,4,none⟩ (.slice none 0 0)).setCell ⟨w.heap.size + 1,5,none⟩ (.slice none 0 0)) = w9:=⟨_,rfl⟩
     rw [hw9]
     have sg9:=set6_grown w1 (w.heap.size + 1) 0 1 2 3 4 5 (.int .i64 7) (.int .i64 0) (.int .i64 0) (.string ⟨#[]⟩) (.slice none 0 0) (.slice none 0 0)
     have Z1:=set_six (v0:=.int .i64 7) (v1:=.int .i64 0) (v2:=.int .i64 0) (v3:=.string ⟨#[]⟩) (v4:=.slice none 0 0) (v5:=.slice none 0 0) B1
     rw [hw9] at sg9 Z1
     have hbw9 : Below w.heap.size w w9:=hbw1.grown sg9 hbw1.size (fun k h => by cases h;omega)
     clear hw9 x0 x1 x2 x3 x4 x5 xf z0 z1 z2 z3 z4 z5 zf
     obtain ⟨s0,s1,s2,s3,s4,s5,sf⟩:=six_of Z1
     refine bodyPost_ret (v:=.agg #[.int .i64 7,.int .i64 0,.int .i64 0,.string ⟨#[]⟩,.slice none 0 0,.slice none 0 0]) (by simp [results,Tryz.results26,go_sem,s0,s1,s2,s3,s4,s5]) rfl ?_
     rw [HT.out]
     exact trOut_nil hbw9
   · have d7 : (K != 7) = true:=by rw [h9];decide
     have n7 : ¬ K = 7:=by rw [h9];decide
     have d9 : (K != 9) = false:=by simpa using h9
     clear h9
     go_enter Tryz.func26,Tryz.ntmps26
     go_wp2_with fail
     refine (HC.out _ bel).mono ?_
     rintro e w1 ⟨rfl,hb1⟩
     have hz1:=hb1.size
     simp at hz1
     have B0 : w1.heap[w.heap.size]? = some (.cells #[.int .i64 K,.int .i64 o.n,.int .i64 o.g,.string ⟨o.s.toArray⟩,.slice p1 n1 c1,.slice p2 n2 c2] 36 (0,0)):=(hb1.block _ (by first | (simp;done) | (simp;omega))).trans ((Below.heap_alloc _ _ _ (by first | (simp;done) | (simp;omega))).trans ((Below.heap_alloc _ _ _ (by simp)).trans (heap_new_at _ _ _ rfl)))
     have B1 : w1.heap[w.heap.size + 1]? = some (.cells #[.int .i64 0,.int .i64 0,.int .i64 0,.string ⟨#[]⟩,.slice none 0 0,.slice none 0 0] 36 (0,0)):=(hb1.block _ (by first | (simp;done) | (simp;omega))).trans ((Below.heap_alloc _ _ _ (by simp)).trans (heap_new_at _ _ _ (by simp)))
     have B2 : w1.heap[w.heap.size + 2]? = some (.cells #[.int .i64 7,.int .i64 0,.int .i64 0,.string ⟨#[]⟩,.slice none 0 0,.slice none 0 0] 36 (0,0)):=(hb1.block _ (by first | (simp;done) | (simp;omega))).trans (heap_new_at _ _ _ (by simp))
     have hbw1 : Below w.heap.size w w1:=bel
     clear hb1
     obtain ⟨x0,x1,x2,x3,x4,x5,xf⟩:=six_of B2
     obtain ⟨z0,z1,z2,z3,z4,z5,zf⟩:=six_of B1
     go_wp2
     obtain ⟨w9,hw9⟩ : ∃ w9,((((((w1.setCell ⟨w.heap.size + 1,0,none⟩ (.int .i64 7)).setCell ⟨w.heap.size + 1,1,none⟩ (.int .i64 0)).setCell ⟨w.heap.size + 1,2,none⟩ (.int .i64 0)).setCell ⟨w.heap.size + 1,3,none⟩ (.string ⟨#[]⟩)).setCell ⟨w.heap.size + 1,4,none⟩ (.slice none 0 0)).setCell ⟨w.heap.size + 1,5,none⟩ (.slice none 0 0)) = w9:=⟨_,rfl⟩
     rw [hw9]
     have sg9:=set6_grown w1 (w.heap.size + 1) 0 1 2 3 4 5 (.int .i64 7) (.int .i64 0) (.int .i64 0) (.string ⟨#[]⟩) (.slice none 0 0) (.slice none 0 0)
     have Z1:=set_six (v0:=.int .i64 7) (v1:=.int .i64 0) (v2:=.int .i64 0) (v3:=.string ⟨#[]⟩) (v4:=.slice none 0 0) (v5:=.slice none 0 0) B1
     rw [hw9] at sg9 Z1
     have hbw9 : Below w.heap.size w w9:=hbw1.grown sg9 hbw1.size (fun k h => by cases h;omega)
     clear hw9 x0 x1 x2 x3 x4 x5 xf z0 z1 z2 z3 z4 z5 zf
     obtain ⟨s0,s1,s2,s3,s4,s5,sf⟩:=six_of Z1
     refine bodyPost_ret (v:=.agg #[.int .i64 7,.int .i64 0,.int .i64 0,.string ⟨#[]⟩,.slice none 0 0,.slice none 0 0]) (by simp [results,Tryz.results26,go_sem,s0,s1,s2,s3,s4,s5]) rfl ?_
     rw [HT.out]
     exact trOut_nil hbw9
theorem dtrailer_good (S : Nat → Prop) (d : Nat) (w : World) (cs : List Value) (o : Ob) (h : ObjAt S (d + 1) w cs o) (hsm : smallO (d + 1) o) (hS : ∀ b, S b → b < w.heap.size) (hd : dictB o = true) (hc : checkB 24 o = 0) :
   Calls Tryz.prog 26 #[.agg cs.toArray] w (TrOut (fun b => w.heap.size ≤ b) (d + 1) w (trailT o)):=by
 have HT:=Lh (show trailT o = ofPairs (pickP o 3) by unfold trailT;rw [hd,hc,if_pos (by decide),pick_eq hd hc])
 have HC:=Lh (fun (W : World) (hW : Below w.heap.size w W) => (show Calls Tryz.prog 36 #[.agg cs.toArray] W (fun e w' => e = .returned (.int .i64 0) ∧ Below W.heap.size W w') from by
   have:=vCheck_in S (d + 1) W cs o (h.kept (fun b h => hW.block b (hS b h)) _) hsm (fun b h => Nat.lt_of_lt_of_le (hS b h) hW.size)
   rw [hc] at this
   exact this))
 have htm:=tame_of (d + 1) 24 cs o h hc
 have HGT:=Lh (fun (W : World) (hW : Below w.heap.size w W) (key : L) => vGet_in S d W cs o key (h.kept (fun b h => hW.block b (hS b h)) (d + 1)) htm (fun b h => Nat.lt_of_lt_of_le (hS b h) hW.size))
 obtain ⟨p1,n1,c1,p2,n2,c2,rfl⟩:=h.shape
 unfold objCells at HC HGT
 unfold objCells
 obtain ⟨K,hK⟩ : ∃ K,o.kind = K:=⟨_,rfl⟩
 rw [hK] at HC HGT ⊢
 have h79 : K = 7 ∨ K = 9:=by rw [← hK];unfold dictB at hd;simpa using hd
 clear hd hK hc h hsm htm hS
 rcases h79 with h7 | h9
 · have d7 : (K != 7) = false:=by simpa using h7
   clear h7
   go_enter Tryz.func26,Tryz.ntmps26
   go_wp2_with fail
   refine (HC.out _ bel).mono ?_
   rintro e w1 ⟨rfl,hb1⟩
   have hz1:=hb1.size
   simp at hz1
   obtain ⟨kb,hkb⟩ : ∃ kb,w1.heap.size = kb:=⟨_,rfl⟩
   obtain ⟨B,hB⟩ : ∃ B,kb + 1 = B:=⟨_,rfl⟩
   have hI1 : TrI w (w1.alloc (.cells #[.string ⟨#[73,68]⟩,.string ⟨#[73,110,102,111]⟩,.string ⟨#[82,111,111,116]⟩] 9)) B (.slice none 0 0) (.slice none 0 0) #[.int .i64 K,.int .i64 o.n,.int .i64 o.g,.string ⟨o.s.toArray⟩,.slice p1 n1 c1,.slice p2 n2 c2]:=by
     have hk : ∀ j,j < w1.heap.size → (w1.alloc (.cells #[.string ⟨#[73,68]⟩,.string ⟨#[73,110,102,111]⟩,.string ⟨#[82,111,111,116]⟩] 9)).heap[j]? = w1.heap[j]?:=fun j hj => Below.heap_alloc _ _ _ hj
     refine ⟨bel,by simp;omega,(hk _ (by omega)).trans ((hb1.block _ (by first | (simp;done) | (simp;omega))).trans ?_),(hk _ (by omega)).trans ((hb1.block _ (by first | (simp;done) | (simp;omega))).trans ?_),(hk _ (by omega)).trans ((hb1.block _ (by first | (simp;done) | (simp;omega))).trans ?_)⟩
     · exact (Below.heap_alloc _ _ _ (by first | (simp;done) | (simp;omega))).trans ((Below.heap_alloc _ _ _ (by simp)).trans (heap_new_at _ _ _ rfl))
     · exact (Below.heap_alloc _ _ _ (by simp)).trans (heap_new_at _ _ _ (by simp))
     · exact heap_new_at _ _ _ (by simp)
   have hk1 : (w1.alloc (.cells #[.string ⟨#[73,68]⟩,.string ⟨#[73,110,102,111]⟩,.string ⟨#[82,111,111,116]⟩] 9)).heap[kb]? = some (.cells #[.string ⟨#[73,68]⟩,.string ⟨#[73,110,102,111]⟩,.string ⟨#[82,111,111,116]⟩] 9 (0,0)):=heap_new_at _ _ _ hkb.symm
   clear hb1
   have hkL : w.heap.size + 3 ≤ kb:=by omega
   have hBl : w.heap.size + 3 ≤ B:=by omega
   have hkB : kb < B:=by omega
   clear hB
   go_wp2_with (go_at_call 37;refine (known_in _).mono ?_;rintro e w5 ⟨rfl,h5⟩;obtain rfl:=h5.symm)
   go_loopw [25] (fun i wr => ∃ (k : Nat) (vs : List Ov) (kv lv : Value),k ≤ 3 ∧ i = .int .i64 k ∧ TrI w wr B kv lv #[.int .i64 K,.int .i64 o.n,.int .i64 o.g,.string ⟨o.s.toArray⟩,.slice p1 n1 c1,.slice p2 n2 c2] ∧ wr.heap[kb]? = some (.cells #[.string ⟨#[73,68]⟩,.string ⟨#[73,110,102,111]⟩,.string ⟨#[82,111,111,116]⟩] 9 (0,0)) ∧ rownS encK 9 wr B kv ((pickP o k).map (·.1)) ∧ rownS encOv 36 wr B lv vs ∧ Hid (OvsAt (ApartS B kv lv) d wr vs ((pickP o k).map (·.2)))) (fun i _ => 3 - (intOf i).toNat)
   case atStart => exact ⟨0,[],_,_,Nat.zero_le _,rfl,hI1,hk1,rownS_nil _ _,rownS_nil _ _,Lh (OvsAt.nil _ _ _)⟩
   case round =>
     clear hI1 hk1 hz1
     obtain ⟨k,vs,kv,lv,hk,rfl,hI,hkc,hr1,hr2,HV⟩:=hrel
     obtain ⟨PK,hPK⟩ : ∃ PK,pickP o k = PK:=⟨_,rfl⟩
     have hpl:=pickP_len o k hk
     rw [hPK] at hr1 HV hpl
     have hvl2 : vs.length ≤ 3:=by have:=HV.out.1;simp at this;omega
     obtain ⟨KS,hKS⟩ : ∃ KS,PK.map (·.1) = KS:=⟨_,rfl⟩
     have hksl : KS.length ≤ 3:=by rw [← hKS];simp;omega
     rw [hKS] at hr1
     obtain ⟨kp,kc,rfl⟩:=rown_slice hr1
     obtain ⟨lp,lc,rfl⟩:=rown_slice hr2
     obtain ⟨x0,x1,x2,x3,x4,x5,xf⟩:=six_of hI.box
     obtain ⟨z0,z1,z2,z3,z4,z5,zf⟩:=six_of hI.res
     obtain ⟨t0,t1,t2,t3,t4,t5,tf⟩:=six_of hI.out
     have hzr:=hI.size
     by_cases hlk : k < 3
     · obtain ⟨x,hx,g1⟩:=trail_at hkc k hlk
       have hsu:=pickP_succ o k x hx
       rw [hPK] at hsu
       have HG:=Lh (fun W (hW : Below w.heap.size w W) => HGT.out W hW x)
       obtain ⟨R,hRR⟩ : ∃ R,getO o x = R:=⟨_,rfl⟩
       have hW:=hI.below
       replace HG:=HG.out wr hW
       rw [hRR] at HG hsu
       clear hx hRR
       cases R with
       | none =>
         have HSU:=Lh (And.intro hsu hKS)
         have HI:=Lh hI
         clear hsu hKS hPK hI hW
         have HG:=Lh HG
         go_wp2_with fail
         refine HG.out.mono ?_
         rintro e w4 ⟨rfl,hb4⟩
         have hz4:=hb4.size
         go_wp2
         go_roundw
         case rel =>
           have hb5 : Below wr.heap.size wr (w4.alloc (.cells #[.int .i64 0,.int .i64 0,.int .i64 0,.string ⟨#[]⟩,.slice none 0 0,.slice none 0 0] 36)):=hb4.alloc hb4.size _
           refine ⟨k + 1,vs,_,_,by omega,by go_num,HI.out.step (hb5.mono hzr) (by omega),(hb5.block _ (by omega)).trans hkc,?_,hr2.below hb5,Lh ?_⟩
           · rw [HSU.out.1];simp only [List.append_nil];rw [HSU.out.2];exact hr1.below hb5
           · rw [HSU.out.1];simp only [List.append_nil]
             exact HV.out.grow (fun b h1 h2 => ⟨h1,hb5.block b h2⟩)
         case measure => simp [intOf];omega
       | some y =>
         have HSU:=Lh (And.intro hsu hKS)
         have HI:=Lh hI
         have HG:=Lh HG
         have hlow : ∀ b,(Value.slice kp KS.length kc).ownBlock = some b → b < wr.heap.size:=fun b h => (World.ownsRow.lt hr1 b h).2
         have hlow2 : ∀ b,(Value.slice lp vs.length lc).ownBlock = some b → b < wr.heap.size:=fun b h => (World.ownsRow.lt hr2 b h).2
         have HLO:=Lh (And.intro hlow hlow2)
         clear hsu hKS hPK hI hW hlow hlow2
         go_wp2_with fail
         refine HG.out.mono ?_
         rintro e w4 hgo
         obtain ⟨y1,v1,y2,v2,rfl,O1,hb4⟩:=hgo
         have hz4:=hb4.size
         have HO1:=Lh O1
         clear O1 HG
         go_upto_region 9 with fail
         obtain ⟨w5,hw5⟩ : ∃ w5,w4.alloc (.cells #[.int .i64 y.kind,.int .i64 y.n,.int .i64 y.g,.string ⟨y.s.toArray⟩,.slice y1 y.keys.length v1,.slice y2 y.kids.length v2] 36) = w5:=⟨_,rfl⟩
         obtain ⟨b6,hb6⟩ : ∃ b6,w4.heap.size = b6:=⟨_,rfl⟩
         have hb5 : Below wr.heap.size wr w5:=by rw [← hw5];exact hb4.alloc hb4.size _
         have hX6 : w5.heap[b6]? = some (.cells #[.int .i64 y.kind,.int .i64 y.n,.int .i64 y.g,.string ⟨y.s.toArray⟩,.slice y1 y.keys.length v1,.slice y2 y.kids.length v2] 36 (0,0)):=by rw [← hw5];exact heap_new_at _ _ _ hb6.symm
         have hz5 : b6 < w5.heap.size:=by rw [← hw5,← hb6];simp
         have HO5:=Lh (HO1.out.grow (S':=fun b => wr.heap.size ≤ b) (w':=w5) (fun b h1 h2 => ⟨h1,by rw [← hw5];exact Below.heap_alloc _ _ _ h2⟩))
         rw [hw5]
         simp only [hb6]
         have HI5:=Lh (HI.out.step (hb5.mono hzr) hBl)
         have hkc5:=(hb5.block kb (by omega)).trans hkc
         have hr15:=hr1.below hb5
         have HR25:=Lh (hr2.below hb5)
         have HV5:=Lh (HV.out.grow (S':=fun b => ApartS B (.slice kp KS.length kc) (.slice lp vs.length lc) b ∧ b < wr.heap.size) (w':=w5) (fun b h1 h2 => ⟨⟨h1,h2⟩,hb5.block b h2⟩))
         have hzB5 : B ≤ w5.heap.size:=Nat.le_trans hzr hb5.size
         have hge6 : wr.heap.size ≤ b6:=by rw [← hb6];exact hz4
         clear hw5 hb6 hb4 HO1 HI hkc hr1 hr2 HV x0 x1 x2 x3 x4 x5 xf z0 z1 z2 z3 z4 z5 zf t0 t1 t2 t3 t4 t5 tf
         obtain ⟨t0,t1,t2,t3,t4,t5,tf⟩:=six_of HI5.out.out
         obtain ⟨r0,r1,r2,r3,r4,r5,rf⟩:=six_of hX6
         go_upto_region 10 with (at_builtin;(refine rappendL (E:=encK) rfl _ _ rfl Tryz.underlying33 Tryz.infoKs rfl (by decide) (by decide) B _ KS x hr15 rfl rfl (by omega) hzB5 ?_;intro g3 q3 w6 hr3 hb3 hz3 hg3 hor3;obtain ⟨s0',s1',s2',s3',s4',s5',sf'⟩:=six_of (HI5.out.step hb3 hBl).out))
         obtain ⟨w7,hw7⟩ : ∃ w7,w6.setCell ⟨w.heap.size + 2,4,none⟩ (.slice (some ⟨g3,0,none⟩) (KS.length + 1) q3) = w7:=⟨_,rfl⟩
         rw [hw7]
         have HI7:=Lh (show TrI w w7 B (.slice (some ⟨g3,0,none⟩) (KS.length + 1) q3) (.slice lp vs.length lc) #[.int .i64 K,.int .i64 o.n,.int .i64 o.g,.string ⟨o.s.toArray⟩,.slice p1 n1 c1,.slice p2 n2 c2] from by rw [← hw7];exact (HI5.out.step hb3 hBl).keys)
         have hr7 : rownS encK 9 w7 B (.slice (some ⟨g3,0,none⟩) (KS.length + 1) q3) (KS ++ [x]):=by rw [← hw7];exact row_set hr3 (by omega)
         have hro7 : rownS encOv 36 w7 B (.slice lp vs.length lc) vs:=by
           rw [← hw7]
           exact row_set (row_other (HR25.out.below ((Below.refl _ w5).alloc (Nat.le_refl _) (.cells (encK.cells x).toArray 9))) (World.ownsRow.alloc hr15 _) (by decide) hg3) (by omega)
         have hk7 : ∀ b,b < w5.heap.size → (Value.slice kp KS.length kc).ownBlock ≠ some b → b ≠ w.heap.size + 2 → w7.heap[b]? = w5.heap[b]?:=fun b h1 h2 h3 => by
           rw [← hw7,Below.heap_setCell w6 ⟨w.heap.size + 2,4,none⟩ _ b h3,hg3.block b (by simp;omega) (fun e => h2 e.symm)]
           exact Below.heap_alloc _ _ _ h1
         have hz7 : w5.heap.size < w7.heap.size:=by rw [← hw7];simpa [World.setCell] using hz3
         have hnk : ∀ b,wr.heap.size ≤ b → (Value.slice kp KS.length kc).ownBlock ≠ some b:=fun b h e => by have:=HLO.out.1 b e;omega
         have hX7:=(hk7 b6 hz5 (hnk b6 hge6) (by omega)).trans hX6
         have hkc7:=(hk7 kb (by omega) (fun e => by have:=own_base hr15 kb e;omega) (by omega)).trans hkc5
         have hg3n : ∀ b,b < w5.heap.size → (Value.slice kp KS.length kc).ownBlock ≠ some b → g3 ≠ b:=fun b h1 h2 e => by
           subst e
           rcases hor3 with h | h
           · exact h2 h
           · omega
         have HV7:=Lh (HV5.out.grow (S':=fun b => ApartS B (.slice (some ⟨g3,0,none⟩) (KS.length + 1) q3) (.slice lp vs.length lc) b ∧ b < w5.heap.size) (w':=w7) (fun b h1 h2 => ⟨⟨⟨h1.1.1,fun e => hg3n b h2 h1.1.2.1 (by simpa [Value.ownBlock] using e),h1.1.2.2⟩,h2⟩,hk7 b h2 h1.1.2.1 (by have:=h1.1.1;omega)⟩))
         have HO7:=Lh (HO5.out.grow (S':=fun b => ApartS B (.slice (some ⟨g3,0,none⟩) (KS.length + 1) q3) (.slice lp vs.length lc) b ∧ b < w5.heap.size) (w':=w7) (fun b h1 h2 => ⟨⟨⟨by omega,fun e => hg3n b h2 (hnk b h1) (by simpa [Value.ownBlock] using e),fun e => by have:=HLO.out.2 b e;omega⟩,h2⟩,hk7 b h2 (hnk b h1) (by omega)⟩))
         have HN7:=Lh (And.intro HLO.out.2 hz7)
         have hzB7 : B ≤ w7.heap.size:=by omega
         have hlv7 : ∀ b,(Value.slice lp vs.length lc).ownBlock = some b → b < w5.heap.size:=fun b e => by have:=HLO.out.2 b e;have:=hb5.size;omega
         have HLV:=Lh hlv7
         clear hw7 hr3 hb3 hz3 hg3 hor3 s0' s1' s2' s3' s4' s5' sf' HI5 hr15 HR25 HV5 HO5 hk7 hnk hg3n hX6 hkc5 t0 t1 t2 t3 t4 t5 tf r0 r1 r2 r3 r4 r5 rf hlv7
         obtain ⟨t0,t1,t2,t3,t4,t5,tf⟩:=six_of HI7.out.out
         obtain ⟨r0,r1,r2,r3,r4,r5,rf⟩:=six_of hX7
         go_wp2_with (at_builtin;(refine rappendL (E:=encOv) rfl _ _ rfl Tryz.underlying34 Tryz.infoOs rfl (by decide) (by decide) B _ vs ⟨y.kind,y.n,y.g,⟨y.s.toArray⟩,y1,y.keys.length,v1,y2,y.kids.length,v2⟩ hro7 rfl rfl (by omega) hzB7 ?_;intro g2 cap w8 hr8 hb8 hz8 hgrow hat;obtain ⟨s0',s1',s2',s3',s4',s5',sf'⟩:=six_of (HI7.out.step hb8 hBl).out))
         have hkeep:=own_base hro7
         have hI8:=(HI7.out.step hb8 hBl).kids (v:=.slice (some ⟨g2,0,none⟩) (vs.length + 1) cap)
         have hK8:=row_set (o:=5) (u:=.slice (some ⟨g2,0,none⟩) (vs.length + 1) cap) (row_other (hr7.below ((Below.refl w7.heap.size w7).alloc (Nat.le_refl _) (.cells #[.int .i64 y.kind,.int .i64 y.n,.int .i64 y.g,.string ⟨y.s.toArray⟩,.slice y1 y.keys.length v1,.slice y2 y.kids.length v2] 36))) (World.ownsRow.alloc hro7 _) (by decide) hgrow) (show w.heap.size + 2 < B by omega)
         have hR9:=row_set (o:=5) (u:=.slice (some ⟨g2,0,none⟩) (vs.length + 1) cap) hr8 (show w.heap.size + 2 < B by omega)
         have hk8 : ∀ b,b < w7.heap.size → (Value.slice lp vs.length lc).ownBlock ≠ some b → b ≠ w.heap.size + 2 → (w8.setCell ⟨w.heap.size + 2,5,none⟩ (.slice (some ⟨g2,0,none⟩) (vs.length + 1) cap)).heap[b]? = w7.heap[b]?:=fun b h1 h2 h3 => by
           rw [Below.heap_setCell w8 ⟨w.heap.size + 2,5,none⟩ _ b h3,hgrow.block b (by simp;omega) (fun e => h2 e.symm)]
           exact Below.heap_alloc _ _ _ h1
         have hg2n : ∀ b,b < w7.heap.size → (Value.slice lp vs.length lc).ownBlock ≠ some b → g2 ≠ b:=fun b h1 h2 e => by
           subst e
           rcases hat with h | h
           · exact h2 h
           · omega
         have hS8 : ∀ b,ApartS B (.slice (some ⟨g3,0,none⟩) (KS.length + 1) q3) (.slice lp vs.length lc) b ∧ b < w5.heap.size → b < w7.heap.size → ApartS B (.slice (some ⟨g3,0,none⟩) (KS.length + 1) q3) (.slice (some ⟨g2,0,none⟩) (vs.length + 1) cap) b ∧ (w8.setCell ⟨w.heap.size + 2,5,none⟩ (.slice (some ⟨g2,0,none⟩) (vs.length + 1) cap)).heap[b]? = w7.heap[b]?:=fun b h1 h2 =>
           ⟨⟨h1.1.1,h1.1.2.1,fun e => hg2n b h2 h1.1.2.2 (by simpa [Value.ownBlock] using e)⟩,hk8 b h2 h1.1.2.2 (by have:=h1.1.1;omega)⟩
         have hV9:=(HV7.out.grow hS8).push (v:=⟨y.kind,y.n,y.g,⟨y.s.toArray⟩,y1,y.keys.length,v1,y2,y.kids.length,v2⟩) (o:=y) (HO7.out.grow hS8)
         have hkc9:=(hk8 kb (by omega) (fun e => by have:=hkeep kb e;omega) (by omega)).trans hkc7
         have HX:=Lh (And.intro hI8 (And.intro hkc9 (And.intro hK8 (And.intro hR9 hV9))))
         clear hgrow hat hkeep hr8 hb8 hI8 hK8 hR9 hV9 hkc9 hS8 hg2n hk8 s0' s1' s2' s3' s4' s5' sf'
         go_wp2
         go_roundw
         case rel =>
           refine ⟨k + 1,vs ++ [⟨y.kind,y.n,y.g,⟨y.s.toArray⟩,y1,y.keys.length,v1,y2,y.kids.length,v2⟩],.slice (some ⟨g3,0,none⟩) (KS.length + 1) q3,.slice (some ⟨g2,0,none⟩) (vs.length + 1) cap,by omega,by go_num,HX.out.1,HX.out.2.1,?_,HX.out.2.2.2.1,Lh ?_⟩
           · rw [HSU.out.1]
             simp only [List.map_append,List.map_cons,List.map_nil]
             rw [HSU.out.2]
             exact HX.out.2.2.1
           · rw [HSU.out.1]
             simp only [List.map_append,List.map_cons,List.map_nil]
             exact HX.out.2.2.2.2
         case measure => simp [intOf];omega
     · have hkn : k = 3:=by omega
       subst hkn
       have hO2:=obj_rows (K:=7) (N:=0) (G:=0) (s:=[]) hr1 hr2 HV.out
       have HO2:=Lh hO2
       have HKS:=Lh (And.intro hPK hKS)
       obtain ⟨e1,he1⟩ : ∃ e1,KS.length = e1:=⟨_,rfl⟩
       obtain ⟨e2,he2⟩ : ∃ e2,vs.length = e2:=⟨_,rfl⟩
       rw [he1] at HO2 hI t4
       rw [he2] at HO2 hI t5
       have HI:=Lh hI
       clear hr1 hr2 hO2 he1 he2 hI hPK hKS
       go_wp2
       refine bodyPost_ret (v:=.agg #[.int .i64 7,.int .i64 0,.int .i64 0,.string ⟨#[]⟩,.slice kp e1 kc,.slice lp e2 lc]) (by simp [results,Tryz.results26,go_sem,z0,z1,z2,z3,z4,z5,zf]) rfl ⟨kp,e1,kc,lp,e2,lc,rfl,?_,?_⟩
       · rw [HT.out]
         unfold ofPairs
         rw [HKS.out.1,HKS.out.2]
         refine ((HO2.out.weaken (S':=fun b => B ≤ b) (fun b h _ => h.elim id (fun h => h.1)) (d + 1)).kept (w':=_) ?_ (d + 1)).weaken (fun b h _ => by omega) (d + 1)
         intro b hb
         have hb2 : b ≠ w.heap.size + 1:=by omega
         iterate 6 (refine (Below.heap_setCell _ _ _ _ hb2).trans ?_)
         rfl
       · exact ((((((HI.out.below.setCell (p:=⟨w.heap.size + 1,0,none⟩) (Nat.le_succ _) _).setCell (p:=⟨w.heap.size + 1,1,none⟩) (Nat.le_succ _) _).setCell (p:=⟨w.heap.size + 1,2,none⟩) (Nat.le_succ _) _).setCell (p:=⟨w.heap.size + 1,3,none⟩) (Nat.le_succ _) _).setCell (p:=⟨w.heap.size + 1,4,none⟩) (Nat.le_succ _) _).setCell (p:=⟨w.heap.size + 1,5,none⟩) (Nat.le_succ _) _)
 · have d7 : (K != 7) = true:=by rw [h9];decide
   have n7 : ¬ K = 7:=by rw [h9];decide
   have d9 : (K != 9) = false:=by simpa using h9
   clear h9
   go_enter Tryz.func26,Tryz.ntmps26
   go_wp2_with fail
   refine (HC.out _ bel).mono ?_
   rintro e w1 ⟨rfl,hb1⟩
   have hz1:=hb1.size
   simp at hz1
   obtain ⟨kb,hkb⟩ : ∃ kb,w1.heap.size = kb:=⟨_,rfl⟩
   obtain ⟨B,hB⟩ : ∃ B,kb + 1 = B:=⟨_,rfl⟩
   have hI1 : TrI w (w1.alloc (.cells #[.string ⟨#[73,68]⟩,.string ⟨#[73,110,102,111]⟩,.string ⟨#[82,111,111,116]⟩] 9)) B (.slice none 0 0) (.slice none 0 0) #[.int .i64 K,.int .i64 o.n,.int .i64 o.g,.string ⟨o.s.toArray⟩,.slice p1 n1 c1,.slice p2 n2 c2]:=by
     have hk : ∀ j,j < w1.heap.size → (w1.alloc (.cells #[.string ⟨#[73,68]⟩,.string ⟨#[73,110,102,111]⟩,.string ⟨#[82,111,111,116]⟩] 9)).heap[j]? = w1.heap[j]?:=fun j hj => Below.heap_alloc _ _ _ hj
     refine ⟨bel,by simp;omega,(hk _ (by omega)).trans ((hb1.block _ (by first | (simp;done) | (simp;omega))).trans ?_),(hk _ (by omega)).trans ((hb1.block _ (by first | (simp;done) | (simp;omega))).trans ?_),(hk _ (by omega)).trans ((hb1.block _ (by first | (simp;done) | (simp;omega))).trans ?_)⟩
     · exact (Below.heap_alloc _ _ _ (by first | (simp;done) | (simp;omega))).trans ((Below.heap_alloc _ _ _ (by simp)).trans (heap_new_at _ _ _ rfl))
     · exact (Below.heap_alloc _ _ _ (by simp)).trans (heap_new_at _ _ _ (by simp))
     · exact heap_new_at _ _ _ (by simp)
   have hk1 : (w1.alloc (.cells #[.string ⟨#[73,68]⟩,.string ⟨#[73,110,102,111]⟩,.string ⟨#[82,111,111,116]⟩] 9)).heap[kb]? = some (.cells #[.string ⟨#[73,68]⟩,.string ⟨#[73,110,102,111]⟩,.string ⟨#[82,111,111,116]⟩] 9 (0,0)):=heap_new_at _ _ _ hkb.symm
   clear hb1
   have hkL : w.heap.size + 3 ≤ kb:=by omega
   have hBl : w.heap.size + 3 ≤ B:=by omega
   have hkB : kb < B:=by omega
   clear hB
   go_wp2_with (go_at_call 37;refine (known_in _).mono ?_;rintro e w5 ⟨rfl,h5⟩;obtain rfl:=h5.symm)
   go_loopw [25] (fun i wr => ∃ (k : Nat) (vs : List Ov) (kv lv : Value),k ≤ 3 ∧ i = .int .i64 k ∧ TrI w wr B kv lv #[.int .i64 K,.int .i64 o.n,.int .i64 o.g,.string ⟨o.s.toArray⟩,.slice p1 n1 c1,.slice p2 n2 c2] ∧ wr.heap[kb]? = some (.cells #[.string ⟨#[73,68]⟩,.string ⟨#[73,110,102,111]⟩,.string ⟨#[82,111,111,116]⟩] 9 (0,0)) ∧ rownS encK 9 wr B kv ((pickP o k).map (·.1)) ∧ rownS encOv 36 wr B lv vs ∧ Hid (OvsAt (ApartS B kv lv) d wr vs ((pickP o k).map (·.2)))) (fun i _ => 3 - (intOf i).toNat)
   case atStart => exact ⟨0,[],_,_,Nat.zero_le _,rfl,hI1,hk1,rownS_nil _ _,rownS_nil _ _,Lh (OvsAt.nil _ _ _)⟩
   case round =>
     clear hI1 hk1 hz1
     obtain ⟨k,vs,kv,lv,hk,rfl,hI,hkc,hr1,hr2,HV⟩:=hrel
     obtain ⟨PK,hPK⟩ : ∃ PK,pickP o k = PK:=⟨_,rfl⟩
     have hpl:=pickP_len o k hk
     rw [hPK] at hr1 HV hpl
     have hvl2 : vs.length ≤ 3:=by have:=HV.out.1;simp at this;omega
     obtain ⟨KS,hKS⟩ : ∃ KS,PK.map (·.1) = KS:=⟨_,rfl⟩
     have hksl : KS.length ≤ 3:=by rw [← hKS];simp;omega
     rw [hKS] at hr1
     obtain ⟨kp,kc,rfl⟩:=rown_slice hr1
     obtain ⟨lp,lc,rfl⟩:=rown_slice hr2
     obtain ⟨x0,x1,x2,x3,x4,x5,xf⟩:=six_of hI.box
     obtain ⟨z0,z1,z2,z3,z4,z5,zf⟩:=six_of hI.res
     obtain ⟨t0,t1,t2,t3,t4,t5,tf⟩:=six_of hI.out
     have hzr:=hI.size
     by_cases hlk : k < 3
     · obtain ⟨x,hx,g1⟩:=trail_at hkc k hlk
       have hsu:=pickP_succ o k x hx
       rw [hPK] at hsu
       have HG:=Lh (fun W (hW : Below w.heap.size w W) => HGT.out W hW x)
       obtain ⟨R,hRR⟩ : ∃ R,getO o x = R:=⟨_,rfl⟩
       have hW:=hI.below
       replace HG:=HG.out wr hW
       rw [hRR] at HG hsu
       clear hx hRR
       cases R with
       | none =>
         have HSU:=Lh (And.intro hsu hKS)
         have HI:=Lh hI
         clear hsu hKS hPK hI hW
         have HG:=Lh HG
         go_wp2_with fail
         refine HG.out.mono ?_
         rintro e w4 ⟨rfl,hb4⟩
         have hz4:=hb4.size
         go_wp2
         go_roundw
         case rel =>
           have hb5 : Below wr.heap.size wr (w4.alloc (.cells #[.int .i64 0,.int .i64 0,.int .i64 0,.string ⟨#[]⟩,.slice none 0 0,.slice none 0 0] 36)):=hb4.alloc hb4.size _
           refine ⟨k + 1,vs,_,_,by omega,by go_num,HI.out.step (hb5.mono hzr) (by omega),(hb5.block _ (by omega)).trans hkc,?_,hr2.below hb5,Lh ?_⟩
           · rw [HSU.out.1];simp only [List.append_nil];rw [HSU.out.2];exact hr1.below hb5
           · rw [HSU.out.1];simp only [List.append_nil]
             exact HV.out.grow (fun b h1 h2 => ⟨h1,hb5.block b h2⟩)
         case measure => simp [intOf];omega
       | some y =>
         have HSU:=Lh (And.intro hsu hKS)
         have HI:=Lh hI
         have HG:=Lh HG
         have hlow : ∀ b,(Value.slice kp KS.length kc).ownBlock = some b → b < wr.heap.size:=fun b h => (World.ownsRow.lt hr1 b h).2
         have hlow2 : ∀ b,(Value.slice lp vs.length lc).ownBlock = some b → b < wr.heap.size:=fun b h => (World.ownsRow.lt hr2 b h).2
         have HLO:=Lh (And.intro hlow hlow2)
         clear hsu hKS hPK hI hW hlow hlow2
         go_wp2_with fail
         refine HG.out.mono ?_
         rintro e w4 hgo
         obtain ⟨y1,v1,y2,v2,rfl,O1,hb4⟩:=hgo
         have hz4:=hb4.size
         have HO1:=Lh O1
         clear O1 HG
         go_upto_region 9 with fail
         obtain ⟨w5,hw5⟩ : ∃ w5,w4.alloc (.cells #[.int .i64 y.kind,.int .i64 y.n,.int .i64 y.g,.string ⟨y.s.toArray⟩,.slice y1 y.keys.length v1,.slice y2 y.kids.length v2] 36) = w5:=⟨_,rfl⟩
         obtain ⟨b6,hb6⟩ : ∃ b6,w4.heap.size = b6:=⟨_,rfl⟩
         have hb5 : Below wr.heap.size wr w5:=by rw [← hw5];exact hb4.alloc hb4.size _
         have hX6 : w5.heap[b6]? = some (.cells #[.int .i64 y.kind,.int .i64 y.n,.int .i64 y.g,.string ⟨y.s.toArray⟩,.slice y1 y.keys.length v1,.slice y2 y.kids.length v2] 36 (0,0)):=by rw [← hw5];exact heap_new_at _ _ _ hb6.symm
         have hz5 : b6 < w5.heap.size:=by rw [← hw5,← hb6];simp
         have HO5:=Lh (HO1.out.grow (S':=fun b => wr.heap.size ≤ b) (w':=w5) (fun b h1 h2 => ⟨h1,by rw [← hw5];exact Below.heap_alloc _ _ _ h2⟩))
         rw [hw5]
         simp only [hb6]
         have HI5:=Lh (HI.out.step (hb5.mono hzr) hBl)
         have hkc5:=(hb5.block kb (by omega)).trans hkc
         have hr15:=hr1.below hb5
         have HR25:=Lh (hr2.below hb5)
         have HV5:=Lh (HV.out.grow (S':=fun b => ApartS B (.slice kp KS.length kc) (.slice lp vs.length lc) b ∧ b < wr.heap.size) (w':=w5) (fun b h1 h2 => ⟨⟨h1,h2⟩,hb5.block b h2⟩))
         have hzB5 : B ≤ w5.heap.size:=Nat.le_trans hzr hb5.size
         have hge6 : wr.heap.size ≤ b6:=by rw [← hb6];exact hz4
         clear hw5 hb6 hb4 HO1 HI hkc hr1 hr2 HV x0 x1 x2 x3 x4 x5 xf z0 z1 z2 z3 z4 z5 zf t0 t1 t2 t3 t4 t5 tf
         obtain ⟨t0,t1,t2,t3,t4,t5,tf⟩:=six_of HI5.out.out
         obtain ⟨r0,r1,r2,r3,r4,r5,rf⟩:=six_of hX6
         go_upto_region 10 with (at_builtin;(refine rappendL (E:=encK) rfl _ _ rfl Tryz.underlying33 Tryz.infoKs rfl (by decide) (by decide) B _ KS x hr15 rfl rfl (by omega) hzB5 ?_;intro g3 q3 w6 hr3 hb3 hz3 hg3 hor3;obtain ⟨s0',s1',s2',s3',s4',s5',sf'⟩:=six_of (HI5.out.step hb3 hBl).out))
         obtain ⟨w7,hw7⟩ : ∃ w7,w6.setCell ⟨w.heap.size + 2,4,none⟩ (.slice (some ⟨g3,0,none⟩) (KS.length + 1) q3) = w7:=⟨_,rfl⟩
         rw [hw7]
         have HI7:=Lh (show TrI w w7 B (.slice (some ⟨g3,0,none⟩) (KS.length + 1) q3) (.slice lp vs.length lc) #[.int .i64 K,.int .i64 o.n,.int .i64 o.g,.string ⟨o.s.toArray⟩,.slice p1 n1 c1,.slice p2 n2 c2] from by rw [← hw7];exact (HI5.out.step hb3 hBl).keys)
         have hr7 : rownS encK 9 w7 B (.slice (some ⟨g3,0,none⟩) (KS.length + 1) q3) (KS ++ [x]):=by rw [← hw7];exact row_set hr3 (by omega)
         have hro7 : rownS encOv 36 w7 B (.slice lp vs.length lc) vs:=by
           rw [← hw7]
           exact row_set (row_other (HR25.out.below ((Below.refl _ w5).alloc (Nat.le_refl _) (.cells (encK.cells x).toArray 9))) (World.ownsRow.alloc hr15 _) (by decide) hg3) (by omega)
         have hk7 : ∀ b,b < w5.heap.size → (Value.slice kp KS.length kc).ownBlock ≠ some b → b ≠ w.heap.size + 2 → w7.heap[b]? = w5.heap[b]?:=fun b h1 h2 h3 => by
           rw [← hw7,Below.heap_setCell w6 ⟨w.heap.size + 2,4,none⟩ _ b h3,hg3.block b (by simp;omega) (fun e => h2 e.symm)]
           exact Below.heap_alloc _ _ _ h1
         have hz7 : w5.heap.size < w7.heap.size:=by rw [← hw7];simpa [World.setCell] using hz3
         have hnk : ∀ b,wr.heap.size ≤ b → (Value.slice kp KS.length kc).ownBlock ≠ some b:=fun b h e => by have:=HLO.out.1 b e;omega
         have hX7:=(hk7 b6 hz5 (hnk b6 hge6) (by omega)).trans hX6
         have hkc7:=(hk7 kb (by omega) (fun e => by have:=own_base hr15 kb e;omega) (by omega)).trans hkc5
         have hg3n : ∀ b,b < w5.heap.size → (Value.slice kp KS.length kc).ownBlock ≠ some b → g3 ≠ b:=fun b h1 h2 e => by
           subst e
           rcases hor3 with h | h
           · exact h2 h
           · omega
         have HV7:=Lh (HV5.out.grow (S':=fun b => ApartS B (.slice (some ⟨g3,0,none⟩) (KS.length + 1) q3) (.slice lp vs.length lc) b ∧ b < w5.heap.size) (w':=w7) (fun b h1 h2 => ⟨⟨⟨h1.1.1,fun e => hg3n b h2 h1.1.2.1 (by simpa [Value.ownBlock] using e),h1.1.2.2⟩,h2⟩,hk7 b h2 h1.1.2.1 (by have:=h1.1.1;omega)⟩))
         have HO7:=Lh (HO5.out.grow (S':=fun b => ApartS B (.slice (some ⟨g3,0,none⟩) (KS.length + 1) q3) (.slice lp vs.length lc) b ∧ b < w5.heap.size) (w':=w7) (fun b h1 h2 => ⟨⟨⟨by omega,fun e => hg3n b h2 (hnk b h1) (by simpa [Value.ownBlock] using e),fun e => by have:=HLO.out.2 b e;omega⟩,h2⟩,hk7 b h2 (hnk b h1) (by omega)⟩))
         have HN7:=Lh (And.intro HLO.out.2 hz7)
         have hzB7 : B ≤ w7.heap.size:=by omega
         have hlv7 : ∀ b,(Value.slice lp vs.length lc).ownBlock = some b → b < w5.heap.size:=fun b e => by have:=HLO.out.2 b e;have:=hb5.size;omega
         have HLV:=Lh hlv7
         clear hw7 hr3 hb3 hz3 hg3 hor3 s0' s1' s2' s3' s4' s5' sf' HI5 hr15 HR25 HV5 HO5 hk7 hnk hg3n hX6 hkc5 t0 t1 t2 t3 t4 t5 tf r0 r1 r2 r3 r4 r5 rf hlv7
         obtain ⟨t0,t1,t2,t3,t4,t5,tf⟩:=six_of HI7.out.out
         obtain ⟨r0,r1,r2,r3,r4,r5,rf⟩:=six_of hX7
         go_wp2_with (at_builtin;(refine rappendL (E:=encOv) rfl _ _ rfl Tryz.underlying34 Tryz.infoOs rfl (by decide) (by decide) B _ vs ⟨y.kind,y.n,y.g,⟨y.s.toArray⟩,y1,y.keys.length,v1,y2,y.kids.length,v2⟩ hro7 rfl rfl (by omega) hzB7 ?_;intro g2 cap w8 hr8 hb8 hz8 hgrow hat;obtain ⟨s0',s1',s2',s3',s4',s5',sf'⟩:=six_of (HI7.out.step hb8 hBl).out))
         have hkeep:=own_base hro7
         have hI8:=(HI7.out.step hb8 hBl).kids (v:=.slice (some ⟨g2,0,none⟩) (vs.length + 1) cap)
         have hK8:=row_set (o:=5) (u:=.slice (some ⟨g2,0,none⟩) (vs.length + 1) cap) (row_other (hr7.below ((Below.refl w7.heap.size w7).alloc (Nat.le_refl _) (.cells #[.int .i64 y.kind,.int .i64 y.n,.int .i64 y.g,.string ⟨y.s.toArray⟩,.slice y1 y.keys.length v1,.slice y2 y.kids.length v2] 36))) (World.ownsRow.alloc hro7 _) (by decide) hgrow) (show w.heap.size + 2 < B by omega)
         have hR9:=row_set (o:=5) (u:=.slice (some ⟨g2,0,none⟩) (vs.length + 1) cap) hr8 (show w.heap.size + 2 < B by omega)
         have hk8 : ∀ b,b < w7.heap.size → (Value.slice lp vs.length lc).ownBlock ≠ some b → b ≠ w.heap.size + 2 → (w8.setCell ⟨w.heap.size + 2,5,none⟩ (.slice (some ⟨g2,0,none⟩) (vs.length + 1) cap)).heap[b]? = w7.heap[b]?:=fun b h1 h2 h3 => by
           rw [Below.heap_setCell w8 ⟨w.heap.size + 2,5,none⟩ _ b h3,hgrow.block b (by simp;omega) (fun e => h2 e.symm)]
           exact Below.heap_alloc _ _ _ h1
         have hg2n : ∀ b,b < w7.heap.size → (Value.slice lp vs.length lc).ownBlock ≠ some b → g2 ≠ b:=fun b h1 h2 e => by
           subst e
           rcases hat with h | h
           · exact h2 h
           · omega
         have hS8 : ∀ b,ApartS B (.slice (some ⟨g3,0,none⟩) (KS.length + 1) q3) (.slice lp vs.length lc) b ∧ b < w5.heap.size → b < w7.heap.size → ApartS B (.slice (some ⟨g3,0,none⟩) (KS.length + 1) q3) (.slice (some ⟨g2,0,none⟩) (vs.length + 1) cap) b ∧ (w8.setCell ⟨w.heap.size + 2,5,none⟩ (.slice (some ⟨g2,0,none⟩) (vs.length + 1) cap)).heap[b]? = w7.heap[b]?:=fun b h1 h2 =>
           ⟨⟨h1.1.1,h1.1.2.1,fun e => hg2n b h2 h1.1.2.2 (by simpa [Value.ownBlock] using e)⟩,hk8 b h2 h1.1.2.2 (by have:=h1.1.1;omega)⟩
         have hV9:=(HV7.out.grow hS8).push (v:=⟨y.kind,y.n,y.g,⟨y.s.toArray⟩,y1,y.keys.length,v1,y2,y.kids.length,v2⟩) (o:=y) (HO7.out.grow hS8)
         have hkc9:=(hk8 kb (by omega) (fun e => by have:=hkeep kb e;omega) (by omega)).trans hkc7
         have HX:=Lh (And.intro hI8 (And.intro hkc9 (And.intro hK8 (And.intro hR9 hV9))))
         clear hgrow hat hkeep hr8 hb8 hI8 hK8 hR9 hV9 hkc9 hS8 hg2n hk8 s0' s1' s2' s3' s4' s5' sf'
         go_wp2
         go_roundw
         case rel =>
           refine ⟨k + 1,vs ++ [⟨y.kind,y.n,y.g,⟨y.s.toArray⟩,y1,y.keys.length,v1,y2,y.kids.length,v2⟩],.slice (some ⟨g3,0,none⟩) (KS.length + 1) q3,.slice (some ⟨g2,0,none⟩) (vs.length + 1) cap,by omega,by go_num,HX.out.1,HX.out.2.1,?_,HX.out.2.2.2.1,Lh ?_⟩
           · rw [HSU.out.1]
             simp only [List.map_append,List.map_cons,List.map_nil]
             rw [HSU.out.2]
             exact HX.out.2.2.1
           · rw [HSU.out.1]
             simp only [List.map_append,List.map_cons,List.map_nil]
             exact HX.out.2.2.2.2
         case measure => simp [intOf];omega
     · have hkn : k = 3:=by omega
       subst hkn
       have hO2:=obj_rows (K:=7) (N:=0) (G:=0) (s:=[]) hr1 hr2 HV.out
       have HO2:=Lh hO2
       have HKS:=Lh (And.intro hPK hKS)
       obtain ⟨e1,he1⟩ : ∃ e1,KS.length = e1:=⟨_,rfl⟩
       obtain ⟨e2,he2⟩ : ∃ e2,vs.length = e2:=⟨_,rfl⟩
       rw [he1] at HO2 hI t4
       rw [he2] at HO2 hI t5
       have HI:=Lh hI
       clear hr1 hr2 hO2 he1 he2 hI hPK hKS
       go_wp2
       refine bodyPost_ret (v:=.agg #[.int .i64 7,.int .i64 0,.int .i64 0,.string ⟨#[]⟩,.slice kp e1 kc,.slice lp e2 lc]) (by simp [results,Tryz.results26,go_sem,z0,z1,z2,z3,z4,z5,zf]) rfl ⟨kp,e1,kc,lp,e2,lc,rfl,?_,?_⟩
       · rw [HT.out]
         unfold ofPairs
         rw [HKS.out.1,HKS.out.2]
         refine ((HO2.out.weaken (S':=fun b => B ≤ b) (fun b h _ => h.elim id (fun h => h.1)) (d + 1)).kept (w':=_) ?_ (d + 1)).weaken (fun b h _ => by omega) (d + 1)
         intro b hb
         have hb2 : b ≠ w.heap.size + 1:=by omega
         iterate 6 (refine (Below.heap_setCell _ _ _ _ hb2).trans ?_)
         rfl
       · exact ((((((HI.out.below.setCell (p:=⟨w.heap.size + 1,0,none⟩) (Nat.le_succ _) _).setCell (p:=⟨w.heap.size + 1,1,none⟩) (Nat.le_succ _) _).setCell (p:=⟨w.heap.size + 1,2,none⟩) (Nat.le_succ _) _).setCell (p:=⟨w.heap.size + 1,3,none⟩) (Nat.le_succ _) _).setCell (p:=⟨w.heap.size + 1,4,none⟩) (Nat.le_succ _) _).setCell (p:=⟨w.heap.size + 1,5,none⟩) (Nat.le_succ _) _)
theorem dtrailer_in (S : Nat → Prop) (d : Nat) (w : World) (cs : List Value) (o : Ob) (h : ObjAt S (d + 1) w cs o) (hsm : smallO (d + 1) o) (hS : ∀ b, S b → b < w.heap.size) :
   Calls Tryz.prog 26 #[.agg cs.toArray] w (TrOut (fun b => w.heap.size ≤ b) (d + 1) w (trailT o)):=by
 cases hno : (dictB o && checkB 24 o == 0)
 · exact dtrailer_none S d w cs o h hsm hS hno
 · simp only [Bool.and_eq_true,beq_iff_eq] at hno
   exact dtrailer_good S d w cs o h hsm hS hno.1 hno.2
open Go.RowKit Fo
def SizeC (S : Nat → Prop) (d : Nat) : Prop:=∀ (w : World) (cs : List Value) (o : Ob),ObjAt S d w cs o → smallO d o → (∀ b,S b → b < w.heap.size) →
 Calls Tryz.prog 15 #[.agg cs.toArray] w fun e w' => (∃ n : Int,e = .returned (.int .i64 n)) ∧ Below w.heap.size w w'
theorem size_step (S : Nat → Prop) (d : Nat) (IH : SizeC S d) : SizeC S (d + 1):=by
 intro w cs o hO hsm hS
 obtain ⟨p1,c1,p2,c2,rfl⟩:=hO.form2
 obtain ⟨kv,dv,hcs,hK0,hR0⟩:=hO
 have hR : RowAt S d w (.slice p2 o.kids.length c2) o.kids:=by
   simp [objCells] at hcs;rw [hcs.2];exact hR0
 have hK : KeysAt S w (.slice p1 o.keys.length c1) o.keys:=by
   simp [objCells] at hcs;rw [hcs.1];exact hK0
 clear hR0 hcs hK0
 obtain ⟨m1,m2,m3,m4,m5⟩:=hsm
 have HRW:=Lh (And.intro hR (And.intro m5 hS))
 have HKW:=Lh (And.intro hK m4)
 obtain ⟨nk,hnk⟩ : ∃ nk,o.kids.length = nk:=⟨_,rfl⟩
 obtain ⟨nq,hnq⟩ : ∃ nq,o.keys.length = nq:=⟨_,rfl⟩
 have HNK:=Lh hnk
 have HNQ:=Lh hnq
 rw [hnk] at HRW m2
 rw [hnq] at HKW m1
 unfold objCells
 rw [hnk,hnq]
 have m3' : o.s.length < 9223372036854775807:=by omega
 clear hR hK hS m4 m5 hnk hnq
 go_enter Tryz.func15,Tryz.ntmps15
 go_wp2
 go_loopw [3,16] (fun v i wr => ∃ (k : Nat) (m : Int),k ≤ nq ∧ i = .int .i64 k ∧ v = .int .i64 m ∧ Below (w.heap.size + 1) (w.alloc (.cells #[.int .i64 o.kind,.int .i64 o.n,.int .i64 o.g,.string ⟨o.s.toArray⟩,.slice p1 nq c1,.slice p2 nk c2] 36)) wr) (fun _ i _ => nq - (intOf i).toNat)
 case atStart => exact ⟨0,_,Nat.zero_le _,rfl,rfl,bel⟩
 case round =>
   obtain ⟨k,m,hk,rfl,rfl,hb⟩:=hrel
   by_cases hlt : k < nq
   ·
     have hbw : Below w.heap.size w wr:=(show Below w.heap.size w (w.alloc (.cells #[.int .i64 o.kind,.int .i64 o.n,.int .i64 o.g,.string ⟨o.s.toArray⟩,.slice p1 nq c1,.slice p2 nk c2] 36)) from bel).trans (hb.mono (by omega))
     have hKw : KeysAt S wr (.slice p1 nq c1) o.keys:=HKW.out.1.kept (fun b h => hbw.block b (HRW.out.2.2 b h))
     obtain ⟨b1,f1,rfl⟩ : ∃ b off,p1 = some ⟨b,off,none⟩:=by
       rcases hKw with ⟨e,_⟩ | ⟨b,off,c,e,_⟩
       · have:=HNQ.out;rw [e] at this;simp at this;omega
       · cases e;exact ⟨_,_,rfl⟩
     obtain ⟨s1,g1⟩:=key_at hKw HNQ.out k hlt
     obtain ⟨x,hx⟩ : ∃ x,o.keys.getD k [] = x:=⟨_,rfl⟩
     rw [hx] at g1
     have hxm : x.length ≤ 140737488355328:=by
       rw [← hx]; exact HKW.out.2 _ (by have : k < o.keys.length := by rw [HNQ.out]; exact hlt
                                        simp [List.getD,this])
     clear hKw hx
     obtain ⟨b0,b1',b2,b3,b4,b5,bf⟩:=six_of ((hb.block w.heap.size (by omega)).trans (heap_new_at w _ _ rfl))
     go_wp2
     go_roundw
     case rel => exact ⟨k + 1,_,by omega,by go_num,rfl,bel⟩
     case measure => simp [intOf];omega
   · have hszr:=hb.size
     simp at hszr
     obtain ⟨b0,b1',b2,b3,b4,b5,bf⟩:=six_of ((hb.block w.heap.size (by omega)).trans (heap_new_at w _ _ rfl))
     have hb1:=hb
     clear hb
     go_wp2
     clear b0 b1' b2 b3 b4 b5 bf
     go_loopw [3,29] (fun v i wr => ∃ (k : Nat) (m : Int),k ≤ nk ∧ i = .int .i64 k ∧ v = .int .i64 m ∧ Below (w.heap.size + 1) (w.alloc (.cells #[.int .i64 o.kind,.int .i64 o.n,.int .i64 o.g,.string ⟨o.s.toArray⟩,.slice p1 nq c1,.slice p2 nk c2] 36)) wr) (fun _ i _ => nk - (intOf i).toNat)
     case atStart => exact ⟨0,_,Nat.zero_le _,rfl,rfl,hb1⟩
     case round =>
       obtain ⟨k,m,hk,rfl,rfl,hb⟩:=hrel
       by_cases hlt : k < nk
       ·
         have hbw : Below w.heap.size w wr:=(show Below w.heap.size w (w.alloc (.cells #[.int .i64 o.kind,.int .i64 o.n,.int .i64 o.g,.string ⟨o.s.toArray⟩,.slice p1 nq c1,.slice p2 nk c2] 36)) from bel).trans (hb.mono (by omega))
         have hRw : RowAt S d wr (.slice p2 nk c2) o.kids:=HRW.out.1.kept (fun b h => hbw.block b (HRW.out.2.2 b h))
         obtain ⟨b,off,rfl⟩ : ∃ b off,p2 = some ⟨b,off,none⟩:=by
           rcases hRw with ⟨e,_⟩ | ⟨b,off,c,e,_⟩
           · have:=HNK.out;rw [e] at this;simp at this;omega
           · cases e;exact ⟨_,_,rfl⟩
         obtain ⟨x,p3,n3,e3,p4,n4,e4,hx,hxm,s1,O1,f0,f1,f2,f3,f4,f5⟩:=row_kid hRw HNK.out k hlt
         have hS2 : ∀ b,S b → b < wr.heap.size:=fun b h => Nat.lt_of_lt_of_le (HRW.out.2.2 b h) hbw.size
         have HI:=Lh (fun (W : World) (hW : Below wr.heap.size wr W) => IH W _ x (O1.kept (fun b h => hW.block b (hS2 b h)) d) (HRW.out.2.1 x hxm) (fun b h => Nat.lt_of_lt_of_le (hS2 b h) hW.size))
         unfold objCells at HI
         have L1:=hS2 b s1
         have hszr:=hb.size
         simp at hszr
         obtain ⟨b0,b1',b2,b3,b4,b5,bf⟩:=six_of ((hb.block w.heap.size (by omega)).trans (heap_new_at w _ _ rfl))
         clear hRw hx hxm O1 hS2
         go_wp2_with fail
         refine (HI.out _ bel).mono ?_
         rintro e w4 ⟨⟨y,rfl⟩,hb4⟩
         go_wp2
         go_roundw
         case rel => exact ⟨k + 1,_,by omega,by go_num,rfl,bel⟩
         case measure => simp [intOf];omega
       · go_wp2
         go_ret
         exact ⟨⟨_,rfl⟩,bel⟩
theorem size_in (S : Nat → Prop) : ∀ d,SizeC S d
 | 0 => fun _ _ _ h => h.elim
 | d + 1 => size_step S d (size_in S d)
open Go.RowKit Fo
def trailC (l : List Sec) : Ob:=match l with
 | [] => ofPairs []
 | s :: _ => trailT s.trail
theorem ctrailer_in (S : Nat → Prop) (d : Nat) (w : World) (p : Option Addr) (n c : Nat) (vs : List SecV) (l : List Sec) (hR : RArg encSec w (.slice p n c) vs) (hI : SecsIs S (d + 1) w vs l) (hS : ∀ b, S b → b < w.heap.size) (hsm : ∀ s ∈ l, smallO (d + 1) s.trail) :
   Calls Tryz.prog 13 #[.slice p n c] w (TrOut (fun b => w.heap.size ≤ b) (d + 1) w (trailC l)):=by
 have hvl : vs.length = n:=(rarg_len hR).symm
 have hll : l.length = n:=by rw [← hI.1];exact hvl
 cases l with
 | nil =>
   have hn : n = 0:=hll.symm
   subst hn
   clear hR hI hvl hll
   go_enter Tryz.func13,Tryz.ntmps13
   go_wp2
   refine bodyPost_ret (v:=.agg #[.int .i64 7,.int .i64 0,.int .i64 0,.string ⟨#[]⟩,.slice none 0 0,.slice none 0 0]) (by simp [results,Tryz.results13,go_sem]) rfl (trOut_nil bel)
 | cons s l =>
   obtain ⟨x,hx⟩ : ∃ x,vs[0]? = some x:=⟨_,List.getElem?_eq_getElem (by rw [hvl,← hll];simp)⟩
   obtain ⟨g,off,rfl,hg,a0,a1,a2,a3,a4,a5,a6,a7,a8,a9,a10⟩:=sec_at hR 0 x hx
   have hSec:=hI.2 0 x s hx rfl
   have HD:=Lh (fun (W : World) (hW : Below w.heap.size w W) => dtrailer_in S d W _ s.trail (hSec.trail.kept (fun b h => hW.block b (hS b h)) _) (hsm s (by simp)) (fun b h => Nat.lt_of_lt_of_le (hS b h) hW.size))
   have hn0 : ¬ n = 0:=by rw [← hll];simp
   have hn1 : ((n : Int) == 0) = false:=by simpa using hn0
   have hn2 : (0 : Int) < n:=by omega
   obtain ⟨A0,sp,sn,sc,K,N,G,st,p1,n1,c1,p2,n2,c2,pv,hy,ow⟩:=x
   simp only [Nat.zero_mul,Nat.add_zero] at a0 a1 a2 a3 a4 a5 a6 a7 a8 a9 a10
   dsimp only at HD
   have hgne : ¬ g = w.heap.size:=by omega
   clear hR hI hvl hll hx hSec hsm
   go_enter Tryz.func13,Tryz.ntmps13
   go_wp2_with fail
   refine (HD.out _ bel).mono ?_
   rintro e w1 ⟨q1,e1,m1,q2,e2,m2,rfl,hO,hb1⟩
   have hz1:=hb1.size
   simp at hz1
   have B1 : w1.heap[w.heap.size]? = some (.cells #[.int .i64 0,.int .i64 0,.int .i64 0,.string ⟨#[]⟩,.slice none 0 0,.slice none 0 0] 36 (0,0)):=(hb1.block _ (by simp)).trans (heap_new_at _ _ _ rfl)
   have hbw1 : Below w.heap.size w w1:=(show Below w.heap.size w (w.alloc (.cells #[.int .i64 0,.int .i64 0,.int .i64 0,.string ⟨#[]⟩,.slice none 0 0,.slice none 0 0] 36)) from bel).trans (hb1.mono (by simp))
   have HO:=Lh (hO.weaken (S':=fun b => w.heap.size < b) (fun b h _ => by simp at h;omega) _)
   clear hb1 hO
   obtain ⟨z0,z1,z2,z3,z4,z5,zf⟩:=six_of B1
   go_wp2
   obtain ⟨w9,hw9⟩ : ∃ w9,((((((w1.setCell ⟨w.heap.size,0,none⟩ (.int .i64 7)).setCell ⟨w.heap.size,1,none⟩ (.int .i64 0)).setCell ⟨w.heap.size,2,none⟩ (.int .i64 0)).setCell ⟨w.heap.size,3,none⟩ (.string ⟨#[]⟩)).setCell ⟨w.heap.size,4,none⟩ (.slice q1 e1 m1)).setCell ⟨w.heap.size,5,none⟩ (.slice q2 e2 m2)) = w9:=⟨_,rfl⟩
   rw [hw9]
   have sg9:=set6_grown w1 w.heap.size 0 1 2 3 4 5 (.int .i64 7) (.int .i64 0) (.int .i64 0) (.string ⟨#[]⟩) (.slice q1 e1 m1) (.slice q2 e2 m2)
   have Z1:=set_six (v0:=.int .i64 7) (v1:=.int .i64 0) (v2:=.int .i64 0) (v3:=.string ⟨#[]⟩) (v4:=.slice q1 e1 m1) (v5:=.slice q2 e2 m2) B1
   rw [hw9] at sg9 Z1
   have hbw9 : Below w.heap.size w w9:=hbw1.grown sg9 hbw1.size (fun k h => by cases h;omega)
   clear hw9 z0 z1 z2 z3 z4 z5 zf
   obtain ⟨s0,s1,s2,s3,s4,s5,sf⟩:=six_of Z1
   refine bodyPost_ret (v:=.agg #[.int .i64 7,.int .i64 0,.int .i64 0,.string ⟨#[]⟩,.slice q1 e1 m1,.slice q2 e2 m2]) (by simp [results,Tryz.results13,go_sem,s0,s1,s2,s3,s4,s5]) rfl ⟨q1,e1,m1,q2,e2,m2,rfl,?_,hbw9⟩
   exact HO.out.grow (fun b h1 h2 => ⟨by omega,sg9.block b h2 (by simp;omega)⟩)
theorem light_in (S : Nat → Prop) (d : Nat) (w : World) (p : Option Addr) (n c : Nat) (vs : List SecV) (l : List Sec) (hR : RArg encSec w (.slice p n c) vs) (hI : SecsIs S d w vs l) (hS : ∀ b, S b → b < w.heap.size) (hsm : ∀ s ∈ l, smallO d s.trail) (hmx : n ≤ 9223372036854775807) :
   Calls Tryz.prog 5 #[.slice p n c] w fun e w' => (e = .returned (.bool false) ∨ (e = .returned (.bool true) ∧ n ≤ 20 ∧ ∀ s ∈ l,s.slots.length ≤ 40)) ∧ Below w.heap.size w w':=by
 have hvl : vs.length = n:=(rarg_len hR).symm
 have hll : l.length = n:=by rw [← hI.1];exact hvl
 cases hq : decide (20 < n)
 rotate_left
 · have d20 : decide ((20 : Int) < (n : Int)) = true:=by simp at hq ⊢;omega
   have n20 : (20 : Int) < n:=by simpa using d20
   clear hR hI hvl hll
   go_enter Tryz.func5,Tryz.ntmps5
   go_wp2
   go_ret
   exact ⟨.inl rfl,Below.refl _ _⟩
 have hn20 : n ≤ 20:=by simpa using hq
 have d20 : decide ((20 : Int) < (n : Int)) = false:=by simp;omega
 have HR:=Lh hR
 have HI:=Lh hI
 have HL:=Lh (And.intro hsm hll)
 have HVL:=Lh hvl
 clear hR hI hvl hll hsm hq
 go_enter Tryz.func5,Tryz.ntmps5
 go_wp2
 go_loopw [3] (fun i wr => ∃ k : Nat,k ≤ n ∧ i = .int .i64 k ∧ Below w.heap.size w wr ∧ Hid (∀ s ∈ l.take k,s.slots.length ≤ 40)) (fun i _ => n - (intOf i).toNat)
 case atStart => exact ⟨0,Nat.zero_le _,rfl,Below.refl _ _,Lh (by simp)⟩
 case round =>
   obtain ⟨k,hk,rfl,hbr,HA⟩:=hrel
   have hzr:=hbr.size
   by_cases hlk : k < n
   · have hRr:=HR.out.below hbr
     obtain ⟨x,hx⟩ : ∃ x,vs[k]? = some x:=⟨_,List.getElem?_eq_getElem (by rw [HVL.out];exact hlk)⟩
     obtain ⟨g,off,rfl,hg,a0,a1,a2,a3,a4,a5,a6,a7,a8,a9,a10⟩:=sec_at hRr k x hx
     have hkl : k < l.length:=by rw [HL.out.2];exact hlk
     have hSec:=HI.out.2 k x l[k] hx (List.getElem?_eq_getElem hkl)
     have hlen:=hSec.len
     have HZ:=Lh (fun (W : World) (hW : Below wr.heap.size wr W) => size_in S d W _ l[k].trail (hSec.trail.kept (fun b h => (hW.block b (Nat.lt_of_lt_of_le (hS b h) hzr)).trans (hbr.block b (hS b h))) _) (HL.out.1 _ (List.getElem_mem hkl)) (fun b h => Nat.lt_of_lt_of_le (hS b h) (Nat.le_trans hzr hW.size)))
     obtain ⟨A0,sp,sn,sc,K,N,G,st,p1,n1,c1,p2,n2,c2,pv,hy,ow⟩:=x
     dsimp only at *
     clear hRr hSec hx
     cases hs40 : decide ((40 : Int) < (sn : Int))
     · have h40 : sn ≤ 40:=by simp at hs40;omega
       have HT:=Lh (show ∀ s ∈ l.take (k + 1),s.slots.length ≤ 40 from by
         rw [List.take_succ_eq_append_getElem hkl]
         intro s hs
         rcases List.mem_append.1 hs with hs | hs
         · exact HA.out s hs
         · simp only [List.mem_singleton] at hs;subst hs;omega)
       clear hlen
       go_wp2_with fail
       refine (HZ.out _ (Below.refl _ _)).mono ?_
       rintro e w1 ⟨⟨z,rfl⟩,hb1⟩
       cases hz4 : decide ((400 : Int) < z)
       · have hz5 : ¬ (400 : Int) < z:=by simpa using hz4
         go_wp2
         go_roundw
         case rel => exact ⟨k + 1,by omega,by go_num,hbr.trans (hb1.mono hzr),HT⟩
         case measure => simp [intOf];omega
       · have hz5 : (400 : Int) < z:=by simpa using hz4
         go_wp2
         go_ret
         exact ⟨.inl rfl,hbr.trans (hb1.mono hzr)⟩
     · have h40 : (40 : Int) < sn:=by simpa using hs40
       clear hlen
       go_wp2
       go_ret
       exact ⟨.inl rfl,hbr⟩
   · have HT := Lib.hid (show ∀ s ∈ l, s.slots.length ≤ 40 from by
       have:=HA.out
       rw [List.take_of_length_le (by rw [HL.out.2];omega)] at this
       exact this)
     go_wp2
     go_ret
     exact ⟨.inr ⟨rfl,hn20,HT.out⟩,hbr⟩
open Go.RowKit Fo Go.Maps
def secB (l : L) (a : Nat) : Option Sec:=match tableR l with
 | some (PS,o,_) => if checkB 24 o = 0 then (match leadsO o wPrevK,leadsO o wHybK with
   | some p,some h => some ⟨a,PS,o,p,h,0⟩
   | _,_ => none) else none
 | none => none
theorem secAt_of {s : ByteArray} {a : Nat} {y : Sec} (h : secB (s.data.toList.drop a) a = some y) : SecAt s a y:=by
 unfold secB at h
 split at h
 · rename_i PS o rest ht
   split at h
   · rename_i hc
     split at h
     · rename_i p q h1 h2
       cases h
       exact ⟨PS,o,rest,p,q,ht,hc,h1,h2,rfl⟩
     · cases h
   · cases h
 · cases h
def sec1 : Sec:=⟨0,[⟨1,1,10,0⟩,⟨2,0,0,0⟩],.mk 7 0 0 [] [[82,111,111,116]] [.mk 8 1 0 [] [] []],-1,-1,0⟩
def sec2 : Sec:=⟨72,[⟨2,1,30,0⟩],.mk 7 0 0 [] [[80,114,101,118],[82,111,111,116]] [.mk 2 0 0 [] [] [],.mk 8 2 0 [] [] []],0,-1,0⟩
def sec3 : Sec:=⟨0,[],.mk 7 0 0 [] [[80,114,101,118]] [.mk 2 0 0 [] [] []],0,-1,0⟩
def strA : ByteArray:=⟨#[120,114,101,102,10,49,32,50,10,48,48,48,48,48,48,48,48,49,48,32,48,48,48,48,48,32,110,32,10,48,48,48,48,48,48,48,48,48,48,32,48,48,48,48,48,32,102,32,10,116,114,97,105,108,101,114,60,60,47,82,111,111,116,32,49,32,48,32,82,62,62,32]⟩
def strB : ByteArray:=⟨#[120,114,101,102,10,50,32,49,10,48,48,48,48,48,48,48,48,51,48,32,48,48,48,48,48,32,110,32,10,116,114,97,105,108,101,114,60,60,47,80,114,101,118,32,48,47,82,111,111,116,32,50,32,48,32,82,62,62]⟩
def strC : ByteArray:=⟨#[120,114,101,102,32,116,114,97,105,108,101,114,60,60,47,80,114,101,118,32,48,62,62]⟩
theorem liv1 : SecAt (strA ++ strB) 0 sec1:=secAt_of (by kernel_rfl)
theorem liv2 : SecAt (strA ++ strB) 72 sec2:=secAt_of (by kernel_rfl)
theorem liv3 : SecAt strC 0 sec3:=secAt_of (by kernel_rfl)
theorem liv_merge : mergeS (allS [sec2,sec1]) = [⟨1,1,10,0⟩,⟨2,1,30,0⟩]:=by kernel_rfl
theorem liv_f2 : numF 2 [⟨1,1,10,0⟩,⟨2,1,30,0⟩] = some ⟨2,1,30,0⟩:=by kernel_rfl
theorem liv_f3 : numF 3 [⟨1,1,10,0⟩,⟨2,1,30,0⟩] = none:=by kernel_rfl
theorem liv_trail : trailC [sec2,sec1] = ofPairs [([82,111,111,116],.mk 8 2 0 [] [] [])]:=by kernel_rfl
theorem liv_small : ∀ s ∈ [sec2,sec1],smallO 25 s.trail:=by
 intro s hs
 simp at hs
 rcases hs with rfl | rfl <;> simp [smallO,sec1,sec2,Ob.keys,Ob.kids,Ob.s]
theorem size_AB : (strA ++ strB).size = 130:=by kernel_rfl
theorem kid_n {S : Nat → Prop} {d : Nat} {w : World} {k n g : Int} {s : L} {kv : Value} {p : Option Addr} {n2 c2 : Nat} {o : Ob} (h : ObjAt S d w (objCells k n g s kv (.slice p n2 c2)) o) (i : Nat) (hi : i < o.kids.length) :
   ∃ kb off,p = some ⟨kb,off,none⟩ ∧ n2 = o.kids.length ∧ kb < w.heap.size ∧ w.cell? ⟨kb,off + 6 * i + 1,none⟩ = some (.int .i64 (o.kids[i]).n):=by
 cases d with
 | zero => exact h.elim
 | succ d =>
   obtain ⟨kv',dv,h1,h2,h3⟩:=h
   simp [objCells] at h1
   obtain ⟨_,_,_,_,_,h6⟩:=h1
   rcases h3 with ⟨h3,_⟩ | ⟨b,off,c,h4,h5,h7⟩
   · rw [h3] at hi;simp at hi
   · rw [h4] at h6
     simp at h6
     obtain ⟨ks,g1,g2,g3⟩:=h7 i hi
     obtain ⟨p1,n1,c1,p2,n2,c2,rfl⟩:=g3.shape
     have hc:=g2 1 (by simp [objCells])
     have hlt : b < w.heap.size:=by
       apply Classical.byContradiction;intro hn
       simp [World.cell?,Array.getElem?_eq_none (Nat.not_lt.1 hn)] at hc
     exact ⟨b,off,h6.1,h6.2.1,hlt,hc⟩
theorem lives_in (w : World) (m : Int) (hm : MaxW w m) : Calls Tryz.prog 6 #[] w fun e w' => e = .returned (.bool true) ∧ Below w.heap.size w w':=by
 have HR2:=Lh (fun (W : World) (hW : MaxW W m) => cread_two (strA ++ strB) 72 sec2 sec1 liv2 (by rw [size_AB];decide) rfl (by decide) liv1 (by decide) (by decide) (by decide) (by rw [size_AB];decide) W m hW)
 have HR3:=Lh (fun (W : World) (hW : MaxW W m) => cread_loop strC sec3 liv3 rfl (by decide) (by decide) (by decide) W m hW)
 unfold strA strB at HR2
 unfold strC at HR3
 go_enter Tryz.func6,Tryz.ntmps6
 go_wp2_with fail
 refine (HR2.out _ hm).mono ?_
 rintro e w1 ⟨⟨p,c,vs,rfl,hR,hI⟩,hb1⟩
 have hz1:=hb1.size
 have HR:=Lh (fun (W : World) (hW : Below w1.heap.size w1 W) => hR.below hW)
 have HI:=Lh (fun (W : World) (hW : Below w1.heap.size w1 W) => hI.below (fun b h => h.2) hW)
 have hm1:=hm.below hb1
 obtain ⟨x,hx⟩ : ∃ x,vs[1]? = some x:=⟨_,List.getElem?_eq_getElem (by rw [hI.1];decide)⟩
 obtain ⟨g,off,rfl,hg,a0,_⟩:=sec_at hR 1 x hx
 have hat : x.at' = 0:=(hI.2 1 x sec1 hx rfl).at'
 rw [hat] at a0
 clear hR hI hx hat HR2
 go_wp2_with fail
 refine (HR3.out _ hm1).mono ?_
 rintro e w2 ⟨rfl,hb2⟩
 have hz2:=hb2.size
 go_wp2_with fail
 refine (csection_neg _ _ (by decide) _).mono ?_
 rintro e w3 ⟨rfl,hb3⟩
 have hz3:=hb3.size
 have hb13 : Below w1.heap.size w1 w3:=hb2.trans (hb3.mono hz2)
 clear hb2 hb3 HR3
 go_upto_region 6 with fail
 obtain ⟨w3',hw3⟩ : ∃ w3',w3.alloc (.cells #[.int .i64 0,.slice none 0 0,.int .i64 0,.int .i64 0,.int .i64 0,.string ⟨#[]⟩,.slice none 0 0,.slice none 0 0,.int .i64 0,.int .i64 0,.int .i64 0] 40) = w3':=⟨_,rfl⟩
 rw [hw3]
 have hb13' : Below w1.heap.size w1 w3':=by rw [← hw3];exact hb13.alloc (by omega) _
 have hz3':=hb13'.size
 clear hw3 hb13
 go_wp2_with fail
 refine (merge_in _ 25 _ _ _ _ vs [sec2,sec1] (HR.out _ hb13') (HI.out _ hb13') (fun b h => by have:=h.2;omega) (by decide) (by decide) (by decide)).mono ?_
 rw [liv_merge]
 rintro e w4 ⟨v,rfl,hrow,hb4⟩
 have hz4:=hb4.size
 obtain ⟨q,qc,rfl⟩:=rown_slice hrow
 have hRM:=rownS.arg hrow
 have HM:=Lh (fun (W : World) (hW : Below w4.heap.size w4 W) => hRM.below hW)
 obtain ⟨g2,off2,rfl,hg2,m0,m1,m2,m3⟩:=slot_at hRM 0 (by decide)
 simp only [Nat.zero_mul,Nat.add_zero,List.getElem_cons_zero] at m0 m1 m2 m3
 have hb14 : Below w1.heap.size w1 w4:=hb13'.trans (hb4.mono hz3')
 clear hrow hRM hb4 hb13'
 go_wp2_with fail
 refine (cfind_in _ _ 2 _ (HM.out _ (Below.refl _ _)) (by decide)).mono ?_
 rw [liv_f2]
 rintro e w5 ⟨rfl,hb5⟩
 have hz5:=hb5.size
 unfold slR slE
 dsimp only [Option.getD_some,Option.isSome_some]
 go_upto_region 8 with fail
 obtain ⟨w5',hw5⟩ : ∃ w5',w5.alloc (.cells #[.int .i64 2,.int .i64 1,.int .i64 30,.int .i64 0] 28) = w5':=⟨_,rfl⟩
 rw [hw5]
 have hF5 : w5'.heap[w5.heap.size]? = some (.cells #[.int .i64 2,.int .i64 1,.int .i64 30,.int .i64 0] 28 (0,0)):=by rw [← hw5];exact heap_new_at _ _ _ rfl
 have hb45 : Below w4.heap.size w4 w5':=by rw [← hw5];exact hb5.alloc hz5 _
 have hz5' : w5.heap.size < w5'.heap.size:=by rw [← hw5];simp
 clear hw5 hb5
 go_wp2_with fail
 refine (cfind_in _ _ 3 _ (HM.out _ hb45) (by decide)).mono ?_
 rw [liv_f3]
 rintro e w6 ⟨rfl,hb6⟩
 have hz6:=hb6.size
 unfold slR slE
 dsimp only [Option.getD_none,Option.isSome_none]
 go_upto_region 9 with fail
 obtain ⟨w6',hw6⟩ : ∃ w6',w6.alloc (.cells #[.int .i64 0,.int .i64 0,.int .i64 0,.int .i64 0] 28) = w6':=⟨_,rfl⟩
 rw [hw6]
 have hb56 : Below w5'.heap.size w5' w6':=by rw [← hw6];exact hb6.alloc hz6 _
 have hz6':=hb56.size
 have hb46:=hb45.trans (hb56.mono (by omega))
 have hb16:=hb14.trans (hb46.mono (by omega))
 clear hw6 hb6 hb45
 go_wp2_with fail
 refine (ctrailer_in _ 24 _ _ _ _ vs [sec2,sec1] (HR.out _ hb16) (HI.out _ hb16) (fun b h => by have:=h.2;omega) liv_small).mono ?_
 rw [liv_trail]
 rintro e w7 ⟨q1,e1,f1,q2,e2,f2,rfl,hO,hb7⟩
 have hz7:=hb7.size
 obtain ⟨kb,koff,rfl,hn2,hkb,hkn⟩:=kid_n hO 0 (by decide)
 obtain rfl : e2 = 1:=hn2
 have hkn' : w7.cell? ⟨kb,koff + 1,none⟩ = some (.int .i64 2):=hkn
 have hF7:=(hb7.block _ (by omega)).trans ((hb56.block _ hz5').trans hF5)
 have c0:=(hb7.cell (p:=⟨g,off + 1 * 11,none⟩) (by show g < _;omega)).trans ((hb16.cell (p:=⟨g,off + 1 * 11,none⟩) (by show g < _;omega)).trans a0)
 have hb47:=hb46.trans (hb7.mono (by omega))
 have n0:=(hb47.cell (p:=⟨g2,off2,none⟩) (by show g2 < _;omega)).trans m0
 have n1:=(hb47.cell (p:=⟨g2,off2 + 1,none⟩) (by show g2 < _;omega)).trans m1
 have n2:=(hb47.cell (p:=⟨g2,off2 + 2,none⟩) (by show g2 < _;omega)).trans m2
 have n3:=(hb47.cell (p:=⟨g2,off2 + 3,none⟩) (by show g2 < _;omega)).trans m3
 have hb17 : Below w.heap.size w w7:=hb1.trans ((hb16.trans (hb7.mono (by omega))).mono hz1)
 obtain ⟨k0,k1,k2,k3⟩:=four_of' hF7
 clear hkn hO hb7 hF7 hF5 hb56 hb46 hb16 hb14 hb47 a0 m0 m1 m2 m3 HM HR HI hb1 hm1 hm
 go_upto_region 10 with fail
 obtain ⟨w8,hw8⟩ : ∃ w8,w7.alloc (.cells #[.int .i64 7,.int .i64 0,.int .i64 0,.string ⟨#[]⟩,.slice q1 e1 f1,.slice (some ⟨kb,koff,none⟩) 1 f2] 36) = w8:=⟨_,rfl⟩
 obtain ⟨tb,htb⟩ : ∃ tb,w7.heap.size = tb:=⟨_,rfl⟩
 obtain ⟨fb,hfb⟩ : ∃ fb,w5.heap.size = fb:=⟨_,rfl⟩
 rw [hw8]
 simp only [htb,hfb]
 have hO8 : w8.heap[tb]? = some (.cells #[.int .i64 7,.int .i64 0,.int .i64 0,.string ⟨#[]⟩,.slice q1 e1 f1,.slice (some ⟨kb,koff,none⟩) 1 f2] 36 (0,0)):=by rw [← hw8];exact heap_new_at _ _ _ htb.symm
 have hb78 : Below w7.heap.size w7 w8:=by rw [← hw8];exact bel
 obtain ⟨t0,t1,t2,t3,t4,t5,tf⟩:=six_of hO8
 have d0:=(hb78.cell (p:=⟨g,off + 1 * 11,none⟩) (by show g < _;omega)).trans c0
 have d1:=(hb78.cell (p:=⟨g2,off2,none⟩) (by show g2 < _;omega)).trans n0
 have d2:=(hb78.cell (p:=⟨g2,off2 + 1,none⟩) (by show g2 < _;omega)).trans n1
 have d3:=(hb78.cell (p:=⟨g2,off2 + 2,none⟩) (by show g2 < _;omega)).trans n2
 have d4:=(hb78.cell (p:=⟨g2,off2 + 3,none⟩) (by show g2 < _;omega)).trans n3
 have d5:=(hb78.cell (p:=⟨kb,koff + 1,none⟩) (by show kb < _;omega)).trans hkn'
 have d6:=(hb78.cell (p:=⟨w5.heap.size,0,none⟩) (by show w5.heap.size < _;omega)).trans k0
 have d7:=(hb78.cell (p:=⟨w5.heap.size,1,none⟩) (by show w5.heap.size < _;omega)).trans k1
 have d8:=(hb78.cell (p:=⟨w5.heap.size,2,none⟩) (by show w5.heap.size < _;omega)).trans k2
 have d9:=(hb78.cell (p:=⟨w5.heap.size,3,none⟩) (by show w5.heap.size < _;omega)).trans k3
 rw [hfb] at d6 d7 d8 d9
 simp only [Nat.one_mul] at d0
 have hbw8 : Below w.heap.size w w8:=hb17.trans (hb78.mono (by have:=hb17.size;omega))
 clear hw8 hO8 hb78 c0 n0 n1 n2 n3 hkn' k0 k1 k2 k3 hb17 htb hfb
 go_wp2
 go_ret
 exact ⟨rfl,hbw8⟩
open Go.RowKit Fo
def slG (x : Sl) (j : Nat) : Int:=match j with | 0 => x.num | 1 => x.kind | 2 => x.a | _ => x.b
def slP (x : Sl) (j : Nat) (v : Int) : Sl:=match j with | 0 => { x with num:=v } | 1 => { x with kind:=v } | 2 => { x with a:=v } | _ => { x with b:=v }
theorem slG_put (x : Sl) (j i : Nat) (v : Int) (hj : j < 4) (hi : i < 4) : slG (slP x j v) i = if i = j then v else slG x i:=by
 have h1 : j = 0 ∨ j = 1 ∨ j = 2 ∨ j = 3:=by omega
 have h2 : i = 0 ∨ i = 1 ∨ i = 2 ∨ i = 3:=by omega
 rcases h1 with rfl | rfl | rfl | rfl <;> rcases h2 with rfl | rfl | rfl | rfl <;> rfl
def TabF (w : World) (g N : Nat) (f : Nat → Sl) : Prop:=w.rowIs g 28 (N * 4) fun i => .int .i64 (slG (f (i / 4)) (i % 4))
theorem TabF.put {w : World} {g N : Nat} {f : Nat → Sl} (h : TabF w g N f) (k j : Nat) (hj : j < 4) (v : Int) : TabF (w.setCell ⟨g,k * 4 + j,none⟩ (.int .i64 v)) g N (fun m => if m = k then slP (f k) j v else f m):=by
 refine (h.set (k * 4 + j) (.int .i64 v)).congr fun i _ => ?_
 dsimp only
 by_cases hk : i / 4 = k
 · subst hk
   rw [if_pos rfl,slG_put _ _ _ _ hj (Nat.mod_lt _ (by decide))]
   by_cases hij : i % 4 = j
   · rw [if_pos hij,if_pos (by omega)]
   · rw [if_neg hij,if_neg (by omega)]
 · rw [if_neg hk,if_neg (by omega)]
theorem TabF.at {w : World} {g N : Nat} {f : Nat → Sl} (h : TabF w g N f) (k : Nat) (hk : k < N) (j : Nat) (hj : j < 4) : w.cell? ⟨g,k * 4 + j,none⟩ = some (.int .i64 (slG (f k) j)):=by
 have:=h.cell (i:=k * 4 + j) (by omega)
 rw [this,show (k * 4 + j) / 4 = k by omega,show (k * 4 + j) % 4 = j by omega]
theorem TabF.four {w : World} {g N : Nat} {f : Nat → Sl} (h : TabF w g N f) (k : Nat) (hk : k < N) :
   w.cell? ⟨g,k * 4,none⟩ = some (.int .i64 (f k).num) ∧ w.cell? ⟨g,k * 4 + 1,none⟩ = some (.int .i64 (f k).kind) ∧ w.cell? ⟨g,k * 4 + 2,none⟩ = some (.int .i64 (f k).a) ∧ w.cell? ⟨g,k * 4 + 3,none⟩ = some (.int .i64 (f k).b) ∧
   w.frozen? ⟨g,k * 4,none⟩ = false ∧ w.frozen? ⟨g,k * 4 + 1,none⟩ = false ∧ w.frozen? ⟨g,k * 4 + 2,none⟩ = false ∧ w.frozen? ⟨g,k * 4 + 3,none⟩ = false :=
 ⟨h.at k hk 0 (by decide),h.at k hk 1 (by decide),h.at k hk 2 (by decide),h.at k hk 3 (by decide),h.frozen _,h.frozen _,h.frozen _,h.frozen _⟩
theorem TabF.same {w : World} {g N : Nat} {f f' : Nat → Sl} (h : TabF w g N f) (e : ∀ k,k < N → f k = f' k) : TabF w g N f' :=
 h.congr fun i hi => by rw [e (i / 4) (by omega)]
theorem TabF.kept {w w' : World} {g N : Nat} {f : Nat → Sl} (h : TabF w g N f) (e : w'.heap[g]? = w.heap[g]?) : TabF w' g N f:=h.of_block e
theorem TabF.below {w w' : World} {g N : Nat} {f : Nat → Sl} (h : TabF w g N f) (hb : Below w.heap.size w w') : TabF w' g N f:=h.of_block (hb.block g (World.rowIs.lt h))
theorem TabF.made (w : World) (N : Nat) : TabF (w.alloc (.cells (madeCells #[.int .i64 0,.int .i64 0,.int .i64 0,.int .i64 0] (N * 4)) 28)) w.heap.size N fun _ => ⟨0,0,0,0⟩:=by
 refine ⟨_,heap_alloc_new _ _,size_madeCells _ _,fun i hi => ?_⟩
 have h4 : i % 4 = 0 ∨ i % 4 = 1 ∨ i % 4 = 2 ∨ i % 4 = 3:=by omega
 rcases h4 with h | h | h | h <;> simp [madeCells,hi,h,slG]
theorem Tryz.infoSx : (Tryz.prog.info? 28).map (fun i => (i.zero,i.size,i.bytes)) = some (some (.agg #[.int .i64 0,.int .i64 0,.int .i64 0,.int .i64 0]),4,32):=by kernel_rfl
theorem make_slots (N : Nat) (hN : N ≤ 8192) (w : World) : (Instr.makeSlice 25 (.int .i64 (N : Int)) (.int .i64 (N : Int))).run Tryz.prog w = .ok (.slice (some ⟨w.heap.size,0,none⟩) N N) (w.alloc (.cells (madeCells #[.int .i64 0,.int .i64 0,.int .i64 0,.int .i64 0] (N * 4)) 28)):=by
 obtain ⟨i,hi,h⟩:=Option.map_eq_some_iff.1 Tryz.infoSx
 simp only [Prod.mk.injEq] at h
 obtain ⟨hz,hs,hb⟩:=h
 have hr:=run_make (P:=Tryz.prog) w 25 28 i _ Tryz.underlying25 hi hz .i64 .i64 N N (by omega) (Int.le_refl _) (by rw [hb];omega) (by omega)
 simp only [Int.toNat_natCast,hs] at hr
 exact hr
def BitF (w : World) (g N : Nat) (f : Nat → Bool) : Prop:=w.rowIs g 4 N fun i => .bool (f i)
theorem BitF.put {w : World} {g N : Nat} {f : Nat → Bool} (h : BitF w g N f) (k : Nat) (v : Bool) : BitF (w.setCell ⟨g,k,none⟩ (.bool v)) g N (fun m => if m = k then v else f m):=by
 refine (World.rowIs.set h k (.bool v)).congr fun i _ => ?_
 dsimp only
 by_cases hk : i = k
 · rw [if_pos hk,if_pos hk]
 · rw [if_neg hk,if_neg hk]
theorem BitF.at {w : World} {g N : Nat} {f : Nat → Bool} (h : BitF w g N f) (k : Nat) (hk : k < N) : w.cell? ⟨g,k,none⟩ = some (.bool (f k)):=World.rowIs.cell h hk
theorem BitF.fro {w : World} {g N : Nat} {f : Nat → Bool} (h : BitF w g N f) (o : Nat) : w.frozen? ⟨g,o,none⟩ = false:=World.rowIs.frozen h _
theorem BitF.same {w : World} {g N : Nat} {f f' : Nat → Bool} (h : BitF w g N f) (e : ∀ k,k < N → f k = f' k) : BitF w g N f':=World.rowIs.congr h fun i hi => by rw [e i hi]
theorem BitF.kept {w w' : World} {g N : Nat} {f : Nat → Bool} (h : BitF w g N f) (e : w'.heap[g]? = w.heap[g]?) : BitF w' g N f:=World.rowIs.of_block h e
theorem BitF.lt {w : World} {g N : Nat} {f : Nat → Bool} (h : BitF w g N f) : g < w.heap.size:=World.rowIs.lt h
theorem BitF.below {w w' : World} {g N : Nat} {f : Nat → Bool} (h : BitF w g N f) (hb : Below w.heap.size w w') : BitF w' g N f:=h.kept (hb.block g h.lt)
theorem BitF.made (w : World) (N : Nat) : BitF (w.alloc (.cells (madeCells #[.bool false] N) 4)) w.heap.size N fun _ => false:=by
 refine ⟨_,heap_alloc_new _ _,size_madeCells _ _,fun i hi => ?_⟩
 have h1 : i % 1 = 0:=Nat.mod_one i
 simp [madeCells,hi,h1]
theorem Tryz.infoBo : (Tryz.prog.info? 4).map (fun i => (i.zero,i.size,i.bytes)) = some (some (.bool false),1,1):=by kernel_rfl
theorem make_bits (N : Nat) (hN : N ≤ 8192) (w : World) : (Instr.makeSlice 54 (.int .i64 (N : Int)) (.int .i64 (N : Int))).run Tryz.prog w = .ok (.slice (some ⟨w.heap.size,0,none⟩) N N) (w.alloc (.cells (madeCells #[.bool false] N) 4)):=by
 obtain ⟨i,hi,h⟩:=Option.map_eq_some_iff.1 Tryz.infoBo
 simp only [Prod.mk.injEq] at h
 obtain ⟨hz,hs,hb⟩:=h
 have hr:=run_make (P:=Tryz.prog) w 54 4 i _ Tryz.underlying54 hi hz .i64 .i64 N N (by omega) (Int.le_refl _) (by rw [hb];omega) (by omega)
 simp only [Int.toNat_natCast,hs,Nat.mul_one] at hr
 exact hr
open Fo
theorem insS_split {a b : List Sl} {x : Sl} (ha : ∀ y ∈ a,y.num < x.num) (hb : ∀ y ∈ b,x.num < y.num) : insS (a ++ b) x = a ++ x :: b:=by
 induction a with
 | nil =>
   cases b with
   | nil => rfl
   | cons y b =>
     have h:=hb y (by simp)
     show (if y.num < x.num then _ else _) = _
     rw [if_neg (by omega),if_neg (by omega)]
     rfl
 | cons z a ih =>
   have h:=ha z (by simp)
   show (if z.num < x.num then _ else _) = _
   rw [if_pos h]
   exact congrArg (z :: ·) (ih (fun y hy => ha y (by simp [hy])))
theorem insS_have {l : List Sl} {x : Sl} (hu : upS l) (h : (numF x.num l).isSome = true) : insS l x = l:=by
 induction l with
 | nil => simp [numF] at h
 | cons y l ih =>
   have h1:=(List.pairwise_cons.1 hu).1
   have h2:=(List.pairwise_cons.1 hu).2
   show (if y.num < x.num then _ else _) = _
   by_cases hlt : y.num < x.num
   · rw [if_pos hlt]
     refine congrArg (y :: ·) (ih h2 ?_)
     have hne : (y.num == x.num) = false:=by simp;omega
     unfold numF at h ⊢
     rw [List.find?_cons] at h
     simpa [hne] using h
   · rw [if_neg hlt]
     by_cases he : y.num = x.num
     · rw [if_pos he]
     · exfalso
       obtain ⟨z,hz⟩:=Option.isSome_iff_exists.1 h
       obtain ⟨hm,hn⟩:=numF_some hz
       rcases List.mem_cons.1 hm with rfl | hm
       · exact he hn
       · have:=h1 z hm
         omega
theorem insS_stop {l : List Sl} {x : Sl} {n : Nat} (hu : upS l) (h0 : (numF x.num l).isSome = false) (hn : n ≤ l.length) (ha : ∀ h : 0 < n, ¬ x.num < (l[n - 1]'(by omega)).num) (hb : ∀ y ∈ l.drop n, x.num < y.num) :
   insS l x = l.take n ++ x :: l.drop n:=by
 have hno : ∀ y ∈ l,y.num ≠ x.num:=by
   have h1 : numF x.num l = none:=by cases h : numF x.num l with
     | none => rfl
     | some y => rw [h] at h0;cases h0
   exact numF_none.1 h1
 have hta : ∀ y ∈ l.take n,y.num < x.num:=by
   intro y hy
   obtain ⟨i,hi,rfl⟩:=List.mem_iff_getElem.1 hy
   rw [List.length_take] at hi
   rw [List.getElem_take]
   have h1:=ha (by omega)
   have h2:=hno (l[n - 1]'(by omega)) (List.getElem_mem _)
   by_cases he : i = n - 1
   · subst he;omega
   · have:=List.pairwise_iff_getElem.1 hu i (n - 1) (by omega) (by omega) (by omega)
     omega
 have h:=insS_split hta hb
 rwa [List.take_append_drop] at h
open Go.RowKit Fo
def firstN (l : List Sl) (n : Nat) : Sl:=(numF (n : Int) l).getD ⟨0,0,0,0⟩
theorem num_snoc (l : List Sl) (x : Sl) (n : Int) : numF n (l ++ [x]) = (numF n l).or (if x.num = n then some x else none):=by
 rw [numF_append,numF_cons];rfl
theorem odd_snoc_out {l : List Sl} {x : Sl} (h : outN x = true) : oddS (l ++ [x]) = insS (oddS l) x:=by
 unfold oddS mergeS
 rw [List.filter_append]
 simp [h,List.foldl_append]
theorem odd_snoc_in {l : List Sl} {x : Sl} (h : outN x = false) : oddS (l ++ [x]) = oddS l:=by
 unfold oddS
 rw [List.filter_append]
 simp [h]
theorem num_snoc_out {l : List Sl} {x : Sl} (h : outN x = true) {n : Nat} (hn : n < 8192) : numF (n : Int) (l ++ [x]) = numF (n : Int) l:=by
 rw [num_snoc,if_neg (by unfold outN at h;simp at h;omega),Option.or_none]
theorem num_snoc_met {l : List Sl} {x : Sl} (h : (numF x.num l).isSome = true) (n : Int) : numF n (l ++ [x]) = numF n l:=by
 rw [num_snoc]
 by_cases e : x.num = n
 · subst e
   obtain ⟨y,hy⟩:=Option.isSome_iff_exists.1 h
   rw [hy];rfl
 · rw [if_neg e,Option.or_none]
theorem num_snoc_new {l : List Sl} {x : Sl} (h : (numF x.num l).isSome = false) (n : Int) : numF n (l ++ [x]) = if x.num = n then some x else numF n l:=by
 rw [num_snoc]
 by_cases e : x.num = n
 · subst e
   have h0 : numF x.num l = none:=by cases h1 : numF x.num l with
     | none => rfl
     | some y => rw [h1] at h;cases h
   simp [h0]
 · rw [if_neg e,if_neg e,Option.or_none]
theorem odd_up (l : List Sl) : upS (oddS l):=(mergeS_ok (l.filter outN)).1
theorem odd_len (l : List Sl) : (oddS l).length ≤ l.length:=by
 have key : ∀ (l acc : List Sl),(l.foldl insS acc).length ≤ acc.length + l.length:=by
   intro l
   induction l with
   | nil => intro acc;simp
   | cons x l ih =>
     intro acc
     have hi : ∀ (l : List Sl),(insS l x).length ≤ l.length + 1:=by
       intro l
       induction l with
       | nil => simp [insS]
       | cons y l ih =>
         unfold insS
         split
         · simp;exact ih
         · split <;> simp
     have h1:=ih (insS acc x)
     have h2:=hi acc
     simp only [List.foldl_cons,List.length_cons]
     omega
 have h:=key (l.filter outN) []
 have h2:=List.length_filter_le outN l
 simp at h
 exact Nat.le_trans h h2
theorem low_end {l : List Sl} {k : Nat} (h : ∀ x ∈ (oddS l).take k,x.num < 0) (hk : k ≤ (oddS l).length) (he : ∀ hk : k < (oddS l).length,¬ (oddS l)[k].num < 0) : (oddS l).take k = lowO l:=by
 unfold lowO
 generalize oddS l = o at *
 clear l
 induction o generalizing k with
 | nil => simp
 | cons x o ih =>
   cases k with
   | zero =>
     have:=he (by simp)
     simp at this
     simp [this]
   | succ k =>
     have h0:=h x (by simp)
     rw [List.take_succ_cons,List.takeWhile_cons,if_pos (by simpa using h0),ih (fun y hy => h y (by simp [hy])) (by simpa using hk) (fun hk => by have h1:=he (by simp only [List.length_cons];omega);rwa [List.getElem_cons_succ] at h1)]
theorem trail_small {d : Nat} {o : Ob} (h : smallO (d + 1) o) : smallO (d + 1) (trailT o):=by
 obtain ⟨h1,h2,h3,h4,h5⟩:=h
 unfold trailT
 split
 · have hl : (pickR o).length ≤ o.keys.length:=Nat.le_trans (List.length_filter_le _ _) (by rw [List.length_zip];exact Nat.min_le_left _ _)
   have hm : ∀ k v,(k,v) ∈ pickR o → k ∈ o.keys ∧ v ∈ o.kids:=fun k v hp => List.of_mem_zip (List.mem_filter.1 hp).1
   refine ⟨by simp only [ofPairs,Ob.keys,List.length_map];omega,by simp only [ofPairs,Ob.kids,List.length_map];omega,by simp [ofPairs,Ob.s],fun x hx => ?_,fun x hx => ?_⟩
   · simp only [ofPairs,Ob.keys] at hx
     obtain ⟨⟨k,v⟩,hp,rfl⟩:=List.mem_map.1 hx
     exact h4 k (hm k v hp).1
   · simp only [ofPairs,Ob.kids] at hx
     obtain ⟨⟨k,v⟩,hp,rfl⟩:=List.mem_map.1 hx
     exact h5 v (hm k v hp).2
 · exact ⟨by simp [ofPairs,Ob.keys],by simp [ofPairs,Ob.kids],by simp [ofPairs,Ob.s],fun x hx => by simp [ofPairs,Ob.keys] at hx,fun x hx => by simp [ofPairs,Ob.kids] at hx⟩
theorem trailC_small {d : Nat} {l : List Sec} (h : ∀ s ∈ l,smallO (d + 1) s.trail) : smallO (d + 1) (trailC l):=by
 cases l with
 | nil => exact ⟨by simp [trailC,ofPairs,Ob.keys],by simp [trailC,ofPairs,Ob.kids],by simp [trailC,ofPairs,Ob.s],fun x hx => by simp [trailC,ofPairs,Ob.keys] at hx,fun x hx => by simp [trailC,ofPairs,Ob.kids] at hx⟩
 | cons s l => exact trail_small (h s (by simp))
open Go.RowKit Fo
structure MSt (w wr : World) (v : Value) (done : List Sl) : Prop where
 tab : TabF wr w.heap.size 8192 (firstN done)
 bit : BitF wr (w.heap.size + 1) 8192 fun n => (numF (n : Int) done).isSome
 oth : rownS slE 28 wr (w.heap.size + 2) v (oddS done)
 blw : Below w.heap.size w wr
variable {w wr w' : World} {v v' : Value} {done : List Sl}
theorem MSt.size (h : MSt w wr v done) : w.heap.size + 2 ≤ wr.heap.size:=h.bit.lt
theorem MSt.below (h : MSt w wr v done) (hb : Below wr.heap.size wr w') : MSt w w' v done:=⟨h.tab.below hb,h.bit.below hb,h.oth.below hb,h.blw.trans (hb.mono h.blw.size)⟩
theorem MSt.made (w : World) : MSt w ((w.alloc (.cells (madeCells #[.int .i64 0,.int .i64 0,.int .i64 0,.int .i64 0] 32768) 28)).alloc (.cells (madeCells #[.bool false] 8192) 4)) (.slice none 0 0) [] :=
 ⟨((TabF.made w 8192).below bel).same fun k hk => rfl,by
   have h:=BitF.made (w.alloc (.cells (madeCells #[.int .i64 0,.int .i64 0,.int .i64 0,.int .i64 0] 32768) 28)) 8192
   rw [World.size_alloc] at h
   exact h.same fun _ _ => rfl,rownS_nil _ _,bel⟩
theorem MSt.out {x : Sl} (h : MSt w wr v done) (hx : outN x = true) (hr : rownS slE 28 w' (w.heap.size + 2) v' (insS (oddS done) x)) (hb : Below (w.heap.size + 2) wr w') : MSt w w' v' (done ++ [x]) where
 tab:=(h.tab.kept (hb.block _ (by omega))).same fun k hk => by unfold firstN;rw [num_snoc_out hx hk]
 bit:=(h.bit.kept (hb.block _ (by omega))).same fun k hk => by rw [num_snoc_out hx hk]
 oth:=by rw [odd_snoc_out hx];exact hr
 blw:=h.blw.trans (hb.mono (by omega))
theorem MSt.met {x : Sl} (h : MSt w wr v done) (hx : outN x = false) (hm : (numF x.num done).isSome = true) : MSt w wr v (done ++ [x]) :=
 ⟨h.tab.same fun k _ => by unfold firstN;rw [num_snoc_met hm],h.bit.same fun k _ => by rw [num_snoc_met hm],by rw [odd_snoc_in hx];exact h.oth,h.blw⟩
theorem MSt.new {k : Nat} {a b c : Int} (h : MSt w wr v done) (hk : k < 8192) (hm : (numF (k : Int) done).isSome = false) :
   MSt w (((((wr.setCell ⟨w.heap.size + 1,k,none⟩ (.bool true)).setCell ⟨w.heap.size,k * 4,none⟩ (.int .i64 k)).setCell ⟨w.heap.size,k * 4 + 1,none⟩ (.int .i64 a)).setCell ⟨w.heap.size,k * 4 + 2,none⟩ (.int .i64 b)).setCell ⟨w.heap.size,k * 4 + 3,none⟩ (.int .i64 c)) v (done ++ [⟨k,a,b,c⟩]):=by
 have hx : outN ⟨k,a,b,c⟩ = false:=by unfold outN;simp;omega
 have hn:=fun n => num_snoc_new (x:=⟨k,a,b,c⟩) hm n
 dsimp only at hn
 have hs:=h.size
 refine ⟨?_,?_,?_,?_⟩
 · have t0 : TabF (wr.setCell ⟨w.heap.size + 1,k,none⟩ (.bool true)) w.heap.size 8192 (firstN done):=h.tab.kept (Below.heap_setCell _ _ _ _ (by show w.heap.size ≠ w.heap.size + 1;omega))
   refine ((((t0.put k 0 (by decide) k).put k 1 (by decide) a).put k 2 (by decide) b).put k 3 (by decide) c).same fun m hmk => ?_
   by_cases e : m = k
   · subst e
     simp [slP,firstN,hn]
   · have e2 : ¬ (k : Int) = (m : Int):=by omega
     simp [e,e2,firstN,hn]
 · have b0:=h.bit.put k true
   refine (BitF.kept (w:=wr.setCell ⟨w.heap.size + 1,k,none⟩ (.bool true)) b0 ?_).same fun m hmk => ?_
   · have hne : ∀ o,(⟨w.heap.size,o,none⟩ : Addr).block ≠ w.heap.size + 1:=fun o => by show w.heap.size ≠ _;omega
     rw [Below.heap_setCell _ _ _ _ (by show w.heap.size + 1 ≠ w.heap.size;omega),Below.heap_setCell _ _ _ _ (by show w.heap.size + 1 ≠ w.heap.size;omega),Below.heap_setCell _ _ _ _ (by show w.heap.size + 1 ≠ w.heap.size;omega),Below.heap_setCell _ _ _ _ (by show w.heap.size + 1 ≠ w.heap.size;omega)]
   · by_cases e : m = k
     · subst e
       simp [hn]
     · have e2 : ¬ (k : Int) = (m : Int):=by omega
       simp [e,e2,hn]
 · rw [odd_snoc_in hx]
   exact row_set (row_set (row_set (row_set (row_set h.oth (by omega)) (by omega)) (by omega)) (by omega)) (by omega)
 · exact ((((h.blw.setCell (by show _ ≤ _;simp) _).setCell (by show _ ≤ _;simp) _).setCell (by show _ ≤ _;simp) _).setCell (by show _ ≤ _;simp) _).setCell (by show _ ≤ _;simp) _
theorem rows_mem {l : List Sl} {n : Nat} (h : (numF (n : Int) l).isSome = true) : numF (n : Int) l = some (firstN l n):=by
 unfold firstN
 obtain ⟨y,hy⟩:=Option.isSome_iff_exists.1 h
 rw [hy];rfl
open Go.RowKit Fo
theorem slRow_set (y : Sl) : ∀ (xs : List Sl) (i : Nat),i < xs.length → ((((slE.row xs).set (i * 4) (.int .i64 y.num)).set (i * 4 + 1) (.int .i64 y.kind)).set (i * 4 + 2) (.int .i64 y.a)).set (i * 4 + 3) (.int .i64 y.b) = slE.row (xs.set i y)
 | [],i,h => by simp at h
 | z :: xs,0,_ => by simp [Enc.row,slE]
 | z :: xs,i + 1,h => by
   have ih:=slRow_set y xs i (by simpa using h)
   have e : ∀ l : List Sl,∀ u : Sl,slE.row (u :: l) = .int .i64 u.num :: .int .i64 u.kind :: .int .i64 u.a :: .int .i64 u.b :: slE.row l:=fun l u => by simp [Enc.row,slE]
   rw [List.set_cons_succ,e,e,← ih,show (i + 1) * 4 = i * 4 + 4 by omega]
   rfl
theorem row_put {t : TypeId} {w : World} {B g n cap : Nat} {xs : List Sl} (h : rownS slE t w B (.slice (some ⟨g, 0, none⟩) n cap) xs) (i : Nat) (hi : i < xs.length) (y : Sl) :
   rownS slE t ((((w.setCell ⟨g,i * 4,none⟩ (.int .i64 y.num)).setCell ⟨g,i * 4 + 1,none⟩ (.int .i64 y.kind)).setCell ⟨g,i * 4 + 2,none⟩ (.int .i64 y.a)).setCell ⟨g,i * 4 + 3,none⟩ (.int .i64 y.b)) B (.slice (some ⟨g,0,none⟩) n cap) (xs.set i y):=by
 have hn : n = xs.length:=by
   rcases h.2 with ⟨h',_⟩ | ⟨g',cap',cur,h',_⟩
   · cases h'
   · cases h';rfl
 subst hn
 have h1:=(World.ownsRow.stored h (i * 4) (.int .i64 y.num)).1
 have h2:=(World.ownsRow.stored h1 (i * 4 + 1) (.int .i64 y.kind)).1
 have h3:=(World.ownsRow.stored h2 (i * 4 + 2) (.int .i64 y.a)).1
 have h4:=(World.ownsRow.stored h3 (i * 4 + 3) (.int .i64 y.b)).1
 rw [slRow_set y xs i hi] at h4
 unfold rownS
 rw [List.length_set]
 exact h4
open Go.RowKit Fo
theorem four_ofF {w : World} {b : Nat} {t : TypeId} {v0 v1 v2 v3 : Value} (h : w.heap[b]? = some (.cells #[v0, v1, v2, v3] t (0, 0))) :
   w.cell? ⟨b,0,none⟩ = some v0 ∧ w.cell? ⟨b,1,none⟩ = some v1 ∧ w.cell? ⟨b,2,none⟩ = some v2 ∧ w.cell? ⟨b,3,none⟩ = some v3 ∧ ∀ o,w.frozen? ⟨b,o,none⟩ = false:=by
 simp [World.cell?,World.frozen?,h]
theorem rfind_in (v : Value) (l : List Sl) (n : Int) (w : World) (hv : RArg slE w v l) (hl : l.length ≤ 1000000000) :
   Calls Tryz.prog 10 #[v,.int .i64 n] w fun e w' => e = .returned (slR (numF n l)) ∧ Below w.heap.size w w':=by
 obtain ⟨p,cp,rfl,_⟩:=id hv
 obtain ⟨m,hm⟩ : ∃ m,l.length = m:=⟨_,rfl⟩
 rw [hm] at hv
 have HM:=Lh hm
 have HV:=Lh hv
 rw [hm]
 rw [hm] at hl
 clear hv hm
 go_enter Tryz.func10,Tryz.ntmps10
 go_wp2
 go_loopw [6] (fun i wr => ∃ j : Nat,j ≤ m ∧ i = .int .i64 j ∧ Below w.heap.size w wr ∧ wr.heap[w.heap.size]? = some (.cells #[.int .i64 0,.int .i64 0,.int .i64 0,.int .i64 0] 28 (0,0)) ∧ Hid (∀ y ∈ l.take j,y.num ≠ n)) (fun i _ => m - (intOf i).toNat)
 case atStart => exact ⟨0,Nat.zero_le _,rfl,bel,heap_new_at _ _ _ rfl,Lh (fun y hy => by simp at hy)⟩
 case round =>
   obtain ⟨j,hj,rfl,hbr,hX,HT⟩:=hrel
   obtain ⟨r0,r1,r2,r3,rf⟩:=four_ofF hX
   have hXl:=lt_of_block hX
   by_cases hjm : j < m
   · have hjl : j < l.length:=by rw [HM.out];exact hjm
     obtain ⟨g,off,rfl,hg,e0,e1,e2,e3⟩:=slot_at HV.out j hjl
     replace e0:=(hbr.cell (p:=⟨g,off + j * 4,none⟩) hg).trans e0
     replace e1:=(hbr.cell (p:=⟨g,off + j * 4 + 1,none⟩) hg).trans e1
     replace e2:=(hbr.cell (p:=⟨g,off + j * 4 + 2,none⟩) hg).trans e2
     replace e3:=(hbr.cell (p:=⟨g,off + j * 4 + 3,none⟩) hg).trans e3
     obtain ⟨x,hx⟩ : ∃ x,l[j] = x:=⟨_,rfl⟩
     have HX:=Lh (show l[j]? = some x by rw [List.getElem?_eq_getElem hjl,hx])
     rw [hx] at e0 e1 e2 e3
     obtain ⟨x0,x1,x2,x3⟩:=x
     dsimp only at e0 e1 e2 e3
     have hgl : g < wr.heap.size:=Nat.lt_of_lt_of_le hg hbr.size
     have hgn : ¬ g = w.heap.size:=by omega
     have hgn2 : ¬ w.heap.size = g:=by omega
     have HXB:=Lh hX
     clear hx hX
     by_cases hn : x0 = n
     · subst hn
       have HR:=Lh (numF_at HX.out HT.out rfl)
       have dk : (x0 == x0) = true:=by simp
       go_wp2
       refine bodyPost_ret (v:=.tuple #[.agg #[.int .i64 x0,.int .i64 x1,.int .i64 x2,.int .i64 x3],.bool true]) (by simp [results,Tryz.results10,go_sem,r0,r1,r2,r3,rf,e0,e1,e2,e3]) rfl ⟨by rw [HR.out];rfl,?_⟩
       have hb:=hbr
       exact bel
     · have dk : (x0 == n) = false:=by simpa using hn
       have HT2:=Lh (show ∀ y ∈ l.take (j + 1),y.num ≠ n by
         intro y hy
         rw [List.take_succ_eq_append_getElem hjl] at hy
         rcases List.mem_append.1 hy with h | h
         · exact HT.out y h
         · simp at h
           have h2:=HX.out
           rw [List.getElem?_eq_getElem hjl] at h2
           rw [h,Option.some.inj h2]
           exact hn)
       have hXX:=r0
       go_wp2
       go_roundw
       case rel => exact ⟨j + 1,by omega,by go_num,hbr,HXB.out,HT2⟩
       case measure => simp [intOf];omega
   · have hjm2 : j = m:=by omega
     subst hjm2
     have HR:=Lh (show numF n l = none from numF_none.2 (fun y hy => HT.out y (by rw [List.take_of_length_le (by rw [HM.out];exact Nat.le_refl _)];exact hy)))
     go_wp2
     refine bodyPost_ret (v:=.tuple #[.agg #[.int .i64 0,.int .i64 0,.int .i64 0,.int .i64 0],.bool false]) (by simp [results,Tryz.results10,go_sem,r0,r1,r2,r3,rf]) rfl ⟨by rw [HR.out];rfl,?_⟩
     have hb:=hbr
     exact bel
end Go.Proofs.YtinafodpgjbedaaGreatDoor
