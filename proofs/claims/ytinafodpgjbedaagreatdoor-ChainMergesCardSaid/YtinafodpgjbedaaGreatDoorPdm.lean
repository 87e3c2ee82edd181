/- Parts of the proof: TrS ChI SlK BackO ChY ChO FrC. -/
import Derived.Test.YtinafodpgjbedaaGreatDoorPdk
import Derived.Test.YtinafodpgjbedaaGreatDoorPdd
import Derived.BigQuiet
import Derived.Deep.QuietTactic
import Derived.Test.YtinafodpgjbedaaGreatDoorPda
import Derived.Test.YtinafodpgjbedaaGreatDoorPdf
import Derived.Test.YtinafodpgjbedaaGreatDoorRows
import Derived.Deep.Slices
import Derived.ChangeArms
import Derived.Test.YtinafodpgjbedaaGreatDoorPdChX
import Derived.Test.YtinafodpgjbedaaGreatDoorPdj
import Derived.ProofKit
import Derived.SizedLaws
import Derived.Test.YtinafodpgjbedaaGreatDoorPdb
import Derived.OpenShut
import Derived.Deep.DeepHandedRow
import Derived.Below
import Derived.ChangeSame
import Derived.ShutString
import Derived.ChangeMaps5
import Derived.LaidMore
set_option linter.all false
set_option maxRecDepth 100000
set_option maxHeartbeats 8000000
namespace Go.Proofs.YtinafodpgjbedaaGreatDoor
open Go.RowKit Fo
theorem rtrailer_none (S : Nat → Prop) (d : Nat) (w : World) (cs : List Value) (o : Ob) (h : ObjAt S (d + 1) w cs o) (hsm : smallO (d + 1) o) (hS : ∀ b, S b → b < w.heap.size) (hno : (dictB o && checkB 24 o == 0) = false) :
   Calls Tryz.prog 27 #[.agg cs.toArray] w (TrOut (fun b => w.heap.size ≤ b) (d + 1) w (trailT o)):=by
 have HT:=Lh (show trailT o = ofPairs [] by unfold trailT;rw [hno,if_neg (by decide)])
 have HC:=Lh (fun (W : World) (hW : Below w.heap.size w W) => Check_in S (d + 1) W cs o (h.kept (fun b h => hW.block b (hS b h)) _) hsm (fun b h => Nat.lt_of_lt_of_le (hS b h) hW.size) (check_in S 24 (Nat.le_refl _)))
 obtain ⟨p1,n1,c1,p2,n2,c2,rfl⟩:=h.shape
 unfold objCells at HC
 unfold objCells
 have HN:=Lh hno
 clear h hsm hS hno
 cases hd : dictB o
 · have HD:=Lh hd
   obtain ⟨K,hK⟩ : ∃ K,o.kind = K:=⟨_,rfl⟩
   have d7 : (K != 7) = true:=by rw [← hK];unfold dictB at hd;simp at hd ⊢;exact hd.1
   have d9 : (K != 9) = true:=by rw [← hK];unfold dictB at hd;simp at hd ⊢;exact hd.2
   have n7 : ¬ K = 7:=by simpa using d7
   have n9 : ¬ K = 9:=by simpa using d9
   rw [hK]
   clear hd hK HC
   go_enter Tryz.func27,Tryz.ntmps27
   go_upto_region 2 with fail
   obtain ⟨w1,hw1⟩ : ∃ w1,((w.alloc (.cells #[.int .i64 K,.int .i64 o.n,.int .i64 o.g,.string ⟨o.s.toArray⟩,.slice p1 n1 c1,.slice p2 n2 c2] 36)).alloc (.cells #[.int .i64 0,.int .i64 0,.int .i64 0,.string ⟨#[]⟩,.slice none 0 0,.slice none 0 0] 36)).alloc (.cells #[.int .i64 7,.int .i64 0,.int .i64 0,.string ⟨#[]⟩,.slice none 0 0,.slice none 0 0] 36) = w1:=⟨_,rfl⟩
   have hbw1 : Below w.heap.size w w1:=by rw [← hw1];exact bel
   have hz1 : w.heap.size + 3 ≤ w1.heap.size:=by rw [← hw1];simp
   have B1 : w1.heap[w.heap.size + 1]? = some (.cells #[.int .i64 0,.int .i64 0,.int .i64 0,.string ⟨#[]⟩,.slice none 0 0,.slice none 0 0] 36 (0,0)):=by rw [← hw1];exact (Below.heap_alloc _ _ _ (by simp)).trans (heap_new_at _ _ _ (by simp))
   have B2 : w1.heap[w.heap.size + 2]? = some (.cells #[.int .i64 7,.int .i64 0,.int .i64 0,.string ⟨#[]⟩,.slice none 0 0,.slice none 0 0] 36 (0,0)):=by rw [← hw1];exact heap_new_at _ _ _ (by simp)
   have B0 : w1.heap[w.heap.size]? = some (.cells #[.int .i64 K,.int .i64 o.n,.int .i64 o.g,.string ⟨o.s.toArray⟩,.slice p1 n1 c1,.slice p2 n2 c2] 36 (0,0)):=by rw [← hw1];exact (Below.heap_alloc _ _ _ (by simp;omega)).trans ((Below.heap_alloc _ _ _ (by simp)).trans (heap_new_at _ _ _ rfl))
   obtain ⟨x0,x1,x2,x3,x4,x5,xf⟩:=six_of B2
   obtain ⟨z0,z1,z2,z3,z4,z5,zf⟩:=six_of B1
   obtain ⟨t0,t1,t2,t3,t4,t5,tf⟩:=six_of B0
   rw [hw1]
   clear hw1
   go_wp2
   obtain ⟨w9,hw9⟩ : ∃ w9,((((((w1.setCell ⟨w.heap.size + 1,0,none⟩ (.int .i64 7)).setCell ⟨w.heap.size + 1,1,none⟩ (.int .i64 0)).setCell ⟨w.heap.size + 1,2,none⟩ (.int .i64 0)).setCell ⟨w.heap.size + 1,3,none⟩ (.string ⟨#[]⟩)).setCell ⟨w.heap.size + 1,4,none⟩ (.slice none 0 0)).setCell ⟨w.heap.size + 1,5,none⟩ (.slice none 0 0)) = w9:=⟨_,rfl⟩
   rw [hw9]
   have sg9:=set6_grown w1 (w.heap.size + 1) 0 1 2 3 4 5 (.int .i64 7) (.int .i64 0) (.int .i64 0) (.string ⟨#[]⟩) (.slice none 0 0) (.slice none 0 0)
   have Z1:=set_six (v0:=.int .i64 7) (v1:=.int .i64 0) (v2:=.int .i64 0) (v3:=.string ⟨#[]⟩) (v4:=.slice none 0 0) (v5:=.slice none 0 0) B1
   rw [hw9] at sg9 Z1
   have hbw9 : Below w.heap.size w w9:=hbw1.grown sg9 hbw1.size (fun k h => by cases h;omega)
   clear hw9 x0 x1 x2 x3 x4 x5 xf z0 z1 z2 z3 z4 z5 zf
   obtain ⟨s0,s1,s2,s3,s4,s5,sf⟩:=six_of Z1
   refine bodyPost_ret (v:=.agg #[.int .i64 7,.int .i64 0,.int .i64 0,.string ⟨#[]⟩,.slice none 0 0,.slice none 0 0]) (by simp [results,Tryz.results27,go_sem,s0,s1,s2,s3,s4,s5]) rfl ?_
   rw [HT.out]
   exact trOut_nil hbw9
 · have hc : checkB 24 o ≠ 0:=by intro h;have:=HN.out;rw [hd,h] at this;cases this
   obtain ⟨C,hC⟩ : ∃ C,checkB 24 o = C:=⟨_,rfl⟩
   rw [hC] at HC hc
   have hcC : (C != 0) = true:=by simpa using hc
   obtain ⟨K,hK⟩ : ∃ K,o.kind = K:=⟨_,rfl⟩
   rw [hK] at HC ⊢
   have h79 : K = 7 ∨ K = 9:=by rw [← hK];unfold dictB at hd;simpa using hd
   clear hd hK hC HN
   rcases h79 with h7 | h9
   · have d7 : (K != 7) = false:=by simpa using h7
     clear h7
     go_enter Tryz.func27,Tryz.ntmps27
     go_wp2_with fail
     refine (HC.out _ bel).mono ?_
     rintro e w1 ⟨rfl,hb1⟩
     have hz1:=hb1.size
     simp at hz1
     have B0 : w1.heap[w.heap.size]? = some (.cells #[.int .i64 K,.int .i64 o.n,.int .i64 o.g,.string ⟨o.s.toArray⟩,.slice p1 n1 c1,.slice p2 n2 c2] 36 (0,0)):=(hb1.block _ (by first | (simp;done) | (simp;omega))).trans ((Below.heap_alloc _ _ _ (by first | (simp;done) | (simp;omega))).trans ((Below.heap_alloc _ _ _ (by simp)).trans (heap_new_at _ _ _ rfl)))
     have B1 : w1.heap[w.heap.size + 1]? = some (.cells #[.int .i64 0,.int .i64 0,.int .i64 0,.string ⟨#[]⟩,.slice none 0 0,.slice none 0 0] 36 (0,0)):=(hb1.block _ (by first | (simp;done) | (simp;omega))).trans ((Below.heap_alloc _ _ _ (by simp)).trans (heap_new_at _ _ _ (by simp)))
     have B2 : w1.heap[w.heap.size + 2]? = some (.cells #[.int .i64 7,.int .i64 0,.int .i64 0,.string ⟨#[]⟩,.slice none 0 0,.slice none 0 0] 36 (0,0)):=(hb1.block _ (by first | (simp;done) | (simp;omega))).trans (heap_new_at _ _ _ (by simp))
     have hbw1 : Below w.heap.size w w1:=bel
     clear hb1
     obtain ⟨x0,x1,x2,x3,x4,x5,xf⟩:=six_of B2
     obtain ⟨z0,z1,z2,z3,z4,z5,zf⟩:=six_of B1
     go_wp2
     obtain ⟨w9,hw9⟩ : ∃ w9,((((((w1.setCell ⟨w.heap.size + 1,0,none⟩ (.int .i64 7)).setCell ⟨w.heap.size + 1,1,none⟩ (.int .i64 0)).setCell ⟨w.heap.size + 1,2,none⟩ (.int .i64 0)).setCell ⟨w.heap.size + 1,3,none⟩ (.string ⟨#[]⟩)).setCell ⟨w.heap.size + 1,4,none⟩ (.slice none 0 0)).setCell ⟨w.heap.size + 1,5,none⟩ (.slice none 0 0)) = w9:=⟨_,rfl⟩
     rw [hw9]
     have sg9:=set6_grown w1 (w.heap.size + 1) 0 1 2 3 4 5 (.int .i64 7) (.int .i64 0) (.int .i64 0) (.string ⟨#[]⟩) (.slice none 0 0) (.slice none 0 0)
     have Z1:=set_six (v0:=.int .i64 7) (v1:=.int .i64 0) (v2:=.int .i64 0) (v3:=.string ⟨#[]⟩) (v4:=.slice none 0 0) (v5:=.slice none 0 0) B1
     rw [hw9] at sg9 Z1
     have hbw9 : Below w.heap.size w w9:=hbw1.grown sg9 hbw1.size (fun k h => by cases h;omega)
     clear hw9 x0 x1 x2 x3 x4 x5 xf z0 z1 z2 z3 z4 z5 zf
     obtain ⟨s0,s1,s2,s3,s4,s5,sf⟩:=six_of Z1
     refine bodyPost_ret (v:=.agg #[.int .i64 7,.int .i64 0,.int .i64 0,.string ⟨#[]⟩,.slice none 0 0,.slice none 0 0]) (by simp [results,Tryz.results27,go_sem,s0,s1,s2,s3,s4,s5]) rfl ?_
     rw [HT.out]
     exact trOut_nil hbw9
   · have d7 : (K != 7) = true:=by rw [h9];decide
     have n7 : ¬ K = 7:=by rw [h9];decide
     have d9 : (K != 9) = false:=by simpa using h9
     clear h9
     go_enter Tryz.func27,Tryz.ntmps27
     go_wp2_with fail
     refine (HC.out _ bel).mono ?_
     rintro e w1 ⟨rfl,hb1⟩
     have hz1:=hb1.size
     simp at hz1
     have B0 : w1.heap[w.heap.size]? = some (.cells #[.int .i64 K,.int .i64 o.n,.int .i64 o.g,.string ⟨o.s.toArray⟩,.slice p1 n1 c1,.slice p2 n2 c2] 36 (0,0)):=(hb1.block _ (by first | (simp;done) | (simp;omega))).trans ((Below.heap_alloc _ _ _ (by first | (simp;done) | (simp;omega))).trans ((Below.heap_alloc _ _ _ (by simp)).trans (heap_new_at _ _ _ rfl)))
     have B1 : w1.heap[w.heap.size + 1]? = some (.cells #[.int .i64 0,.int .i64 0,.int .i64 0,.string ⟨#[]⟩,.slice none 0 0,.slice none 0 0] 36 (0,0)):=(hb1.block _ (by first | (simp;done) | (simp;omega))).trans ((Below.heap_alloc _ _ _ (by simp)).trans (heap_new_at _ _ _ (by simp)))
     have B2 : w1.heap[w.heap.size + 2]? = some (.cells #[.int .i64 7,.int .i64 0,.int .i64 0,.string ⟨#[]⟩,.slice none 0 0,.slice none 0 0] 36 (0,0)):=(hb1.block _ (by first | (simp;done) | (simp;omega))).trans (heap_new_at _ _ _ (by simp))
     have hbw1 : Below w.heap.size w w1:=bel
     clear hb1
     obtain ⟨x0,x1,x2,x3,x4,x5,xf⟩:=six_of B2
     obtain ⟨z0,z1,z2,z3,z4,z5,zf⟩:=six_of B1
     go_wp2
     obtain ⟨w9,hw9⟩ : ∃ w9,((((((w1.setCell ⟨w.heap.size + 1,0,none⟩ (.int .i64 7)).setCell ⟨w.heap.size + 1,1,none⟩ (.int .i64 0)).setCell ⟨w.heap.size + 1,2,none⟩ (.int .i64 0)).setCell ⟨w.heap.size + 1,3,none⟩ (.string ⟨#[]⟩)).setCell ⟨w.heap.size + 1,4,none⟩ (.slice none 0 0)).setCell ⟨w.heap.size + 1,5,none⟩ (.slice none 0 0)) = w9:=⟨_,rfl⟩
     rw [hw9]
     have sg9:=set6_grown w1 (w.heap.size + 1) 0 1 2 3 4 5 (.int .i64 7) (.int .i64 0) (.int .i64 0) (.string ⟨#[]⟩) (.slice none 0 0) (.slice none 0 0)
     have Z1:=set_six (v0:=.int .i64 7) (v1:=.int .i64 0) (v2:=.int .i64 0) (v3:=.string ⟨#[]⟩) (v4:=.slice none 0 0) (v5:=.slice none 0 0) B1
     rw [hw9] at sg9 Z1
     have hbw9 : Below w.heap.size w w9:=hbw1.grown sg9 hbw1.size (fun k h => by cases h;omega)
     clear hw9 x0 x1 x2 x3 x4 x5 xf z0 z1 z2 z3 z4 z5 zf
     obtain ⟨s0,s1,s2,s3,s4,s5,sf⟩:=six_of Z1
     refine bodyPost_ret (v:=.agg #[.int .i64 7,.int .i64 0,.int .i64 0,.string ⟨#[]⟩,.slice none 0 0,.slice none 0 0]) (by simp [results,Tryz.results27,go_sem,s0,s1,s2,s3,s4,s5]) rfl ?_
     rw [HT.out]
     exact trOut_nil hbw9
theorem rtrailer_in (S : Nat → Prop) (d : Nat) (w : World) (cs : List Value) (o : Ob) (h : ObjAt S (d + 1) w cs o) (hsm : smallO (d + 1) o) (hS : ∀ b, S b → b < w.heap.size) :
   Calls Tryz.prog 27 #[.agg cs.toArray] w (TrOut (fun b => w.heap.size ≤ b ∨ S b) (d + 1) w (trailT o)):=by
 cases hno : (dictB o && checkB 24 o == 0)
 · refine (rtrailer_none S d w cs o h hsm hS hno).mono ?_
   rintro e w' ⟨q1,e1,m1,q2,e2,m2,he,hO,hb⟩
   exact ⟨q1,e1,m1,q2,e2,m2,he,hO.weaken (fun b h _ => .inl h) _,hb⟩
 · simp only [Bool.and_eq_true,beq_iff_eq] at hno
   obtain ⟨hd,hc⟩:=hno
   have hk79 : o.kind = 7 ∨ o.kind = 9:=by unfold dictB at hd;simpa using hd
   have hT : trailT o = ofPairs (pickR o):=by unfold trailT;rw [hd,hc,if_pos (by decide)]
   have hlen:=((keysB_iff o hk79).1 ((checkB_iff 23 o).1 hc).keys).len
   obtain ⟨p1,c1,p2,c2,rfl⟩:=h.form2
   have hl : o.kids.length ≤ 8192:=by have:=((checkB_iff 23 o).1 hc).many;omega
   rw [hlen] at h ⊢
   have hp : pickK keepT o o.kids.length = pickR o:=by
     unfold pickK pickR
     rw [List.take_of_length_le (by simp [hlen])]
   refine (rtrailerK S d w o p1 p2 c1 o.kids.length c2 h hS hlen rfl hl hk79 hsm hc).mono ?_
   rintro e w' ⟨q1,e1,m1,q2,e2,m2,he,hO,hb⟩
   rw [hp] at hO
   exact ⟨q1,e1,m1,q2,e2,m2,he,by rw [hT];exact hO,hb⟩
open Go.RowKit Fo
theorem rctrailer_in (S : Nat → Prop) (d : Nat) (w : World) (p : Option Addr) (n c : Nat) (vs : List SecV) (l : List Sec) (hR : RArg encSec w (.slice p n c) vs) (hI : SecsIs S (d + 1) w vs l) (hS : ∀ b, S b → b < w.heap.size) (hsm : ∀ s ∈ l, smallO (d + 1) s.trail) :
   Calls Tryz.prog 14 #[.slice p n c] w (TrOut (fun b => w.heap.size ≤ b ∨ S b) (d + 1) w (trailC l)):=by
 have hvl : vs.length = n:=(rarg_len hR).symm
 have hll : l.length = n:=by rw [← hI.1];exact hvl
 cases l with
 | nil =>
   have hn : n = 0:=hll.symm
   subst hn
   clear hR hI hvl hll
   go_enter Tryz.func14,Tryz.ntmps14
   go_wp2
   refine bodyPost_ret (v:=.agg #[.int .i64 7,.int .i64 0,.int .i64 0,.string ⟨#[]⟩,.slice none 0 0,.slice none 0 0]) (by simp [results,Tryz.results14,go_sem]) rfl (trOut_nil bel)
 | cons s l =>
   obtain ⟨x,hx⟩ : ∃ x,vs[0]? = some x:=⟨_,List.getElem?_eq_getElem (by rw [hvl,← hll];simp)⟩
   obtain ⟨g,off,rfl,hg,a0,a1,a2,a3,a4,a5,a6,a7,a8,a9,a10⟩:=sec_at hR 0 x hx
   have hSec:=hI.2 0 x s hx rfl
   have HSH:=Lh hS
   have HD:=Lh (fun (W : World) (hW : Below w.heap.size w W) => rtrailer_in S d W _ s.trail (hSec.trail.kept (fun b h => hW.block b (hS b h)) _) (hsm s (by simp)) (fun b h => Nat.lt_of_lt_of_le (hS b h) hW.size))
   have hn0 : ¬ n = 0:=by rw [← hll];simp
   have hn1 : ((n : Int) == 0) = false:=by simpa using hn0
   have hn2 : (0 : Int) < n:=by omega
   obtain ⟨A0,sp,sn,sc,K,N,G,st,p1,n1,c1,p2,n2,c2,pv,hy,ow⟩:=x
   simp only [Nat.zero_mul,Nat.add_zero] at a0 a1 a2 a3 a4 a5 a6 a7 a8 a9 a10
   dsimp only at HD
   have hgne : ¬ g = w.heap.size:=by omega
   clear hR hI hvl hll hx hSec hsm
   go_enter Tryz.func14,Tryz.ntmps14
   go_wp2_with fail
   refine (HD.out _ bel).mono ?_
   rintro e w1 ⟨q1,e1,m1,q2,e2,m2,rfl,hO,hb1⟩
   have hz1:=hb1.size
   simp at hz1
   have B1 : w1.heap[w.heap.size]? = some (.cells #[.int .i64 0,.int .i64 0,.int .i64 0,.string ⟨#[]⟩,.slice none 0 0,.slice none 0 0] 36 (0,0)):=(hb1.block _ (by simp)).trans (heap_new_at _ _ _ rfl)
   have hbw1 : Below w.heap.size w w1:=(show Below w.heap.size w (w.alloc (.cells #[.int .i64 0,.int .i64 0,.int .i64 0,.string ⟨#[]⟩,.slice none 0 0,.slice none 0 0] 36)) from bel).trans (hb1.mono (by simp))
   have HO:=Lh (hO.weaken (S':=fun b => w.heap.size < b ∨ S b) (fun b h _ => h.elim (fun h => .inl (by simp at h;omega)) .inr) _)
   clear hb1 hO
   obtain ⟨z0,z1,z2,z3,z4,z5,zf⟩:=six_of B1
   go_wp2
   obtain ⟨w9,hw9⟩ : ∃ w9,((((((w1.setCell ⟨w.heap.size,0,none⟩ (.int .i64 7)).setCell ⟨w.heap.size,1,none⟩ (.int .i64 0)).setCell ⟨w.heap.size,2,none⟩ (.int .i64 0)).setCell ⟨w.heap.size,3,none⟩ (.string ⟨#[]⟩)).setCell ⟨w.heap.size,4,none⟩ (.slice q1 e1 m1)).setCell ⟨w.heap.size,5,none⟩ (.slice q2 e2 m2)) = w9:=⟨_,rfl⟩
   rw [hw9]
   have sg9:=set6_grown w1 w.heap.size 0 1 2 3 4 5 (.int .i64 7) (.int .i64 0) (.int .i64 0) (.string ⟨#[]⟩) (.slice q1 e1 m1) (.slice q2 e2 m2)
   have Z1:=set_six (v0:=.int .i64 7) (v1:=.int .i64 0) (v2:=.int .i64 0) (v3:=.string ⟨#[]⟩) (v4:=.slice q1 e1 m1) (v5:=.slice q2 e2 m2) B1
   rw [hw9] at sg9 Z1
   have hbw9 : Below w.heap.size w w9:=hbw1.grown sg9 hbw1.size (fun k h => by cases h;omega)
   clear hw9 z0 z1 z2 z3 z4 z5 zf
   obtain ⟨s0,s1,s2,s3,s4,s5,sf⟩:=six_of Z1
   refine bodyPost_ret (v:=.agg #[.int .i64 7,.int .i64 0,.int .i64 0,.string ⟨#[]⟩,.slice q1 e1 m1,.slice q2 e2 m2]) (by simp [results,Tryz.results14,go_sem,s0,s1,s2,s3,s4,s5]) rfl ⟨q1,e1,m1,q2,e2,m2,rfl,?_,hbw9⟩
   exact HO.out.grow (fun b h1 h2 => ⟨h1.imp (fun h => by omega) id,sg9.block b h2 (by
     have hne : b ≠ w.heap.size:=h1.elim (fun h => by omega) (fun h => by have:=HSH.out b h;omega)
     simpa using hne)⟩)
open Go.RowKit Fo
theorem kslots (v1 v2 : Value) (l : List Sl) (w : World) (h1 : RArg slE w v1 l) (h2 : RArg slE w v2 l) (hl : l.length ≤ 100000) :
   Calls Tryz.prog 11 #[v1,v2] w fun e w' => e = .returned (.bool true) ∧ Below w.heap.size w w':=by
 obtain ⟨p1,c1,rfl,h1'⟩:=id h1
 obtain ⟨p2,c2,rfl,h2'⟩:=id h2
 obtain ⟨n,hn⟩ : ∃ n,l.length = n:=⟨_,rfl⟩
 have HH:=Lh (And.intro h1 h2)
 have HN:=Lh hn
 rw [hn] at HH hl ⊢
 clear h1 h2 h1' h2' hn
 go_enter Tryz.func11,Tryz.ntmps11
 go_wp2
 go_loopw [5] (fun i wr => ∃ k : Nat,k ≤ n ∧ i = .int .i64 k ∧ Below w.heap.size w wr) (fun i _ => n - (intOf i).toNat)
 case atStart => exact ⟨0,Nat.zero_le _,rfl,Below.refl _ _⟩
 case round =>
   obtain ⟨k,hk,rfl,hbr⟩:=hrel
   by_cases hlk : k < n
   · obtain ⟨g1,o1,e1,_,a0,a1,a2,a3⟩:=slot_at (HH.out.1.below hbr) k (by rw [HN.out];exact hlk)
     obtain ⟨g2,o2,e2,_,b0,b1,b2,b3⟩:=slot_at (HH.out.2.below hbr) k (by rw [HN.out];exact hlk)
     obtain ⟨X,hX⟩ : ∃ X,l[k]'(by rw [HN.out];exact hlk) = X:=⟨_,rfl⟩
     rw [hX] at a0 a1 a2 a3 b0 b1 b2 b3
     subst e1
     subst e2
     clear hX
     have v1 : (0 : Int) ≤ k:=by omega
     have v2 : (k : Int) < n:=by omega
     go_wp2_with fail
     go_quiet (fail)
     go_wp2
     go_roundw
     case rel => exact ⟨k + 1,by omega,by go_num,bel⟩
     case measure => simp [intOf];omega
   · go_wp2
     go_ret
     exact ⟨rfl,hbr⟩
open Go.RowKit Fo Go.ChangeShapes
theorem list_of_each {α : Type} {p : Nat → α → Prop} (n : Nat) (h : ∀ i,i < n → ∃ o,p i o) : ∃ l : List α,l.length = n ∧ ∀ i (hi : i < l.length),p i l[i]:=by
 induction n with
 | zero => exact ⟨[],rfl,fun i hi => absurd hi (by simp)⟩
 | succ n ih =>
   obtain ⟨l,hl,hp⟩:=ih (fun i hi => h i (by omega))
   obtain ⟨o,ho⟩:=h n (by omega)
   refine ⟨l ++ [o],by simp [hl],fun i hi => ?_⟩
   by_cases h1 : i < l.length
   · rw [List.getElem_append_left h1];exact hp i h1
   · have h2 : i = l.length:=by simp at hi;omega
     subst h2
     simp only [List.getElem_concat_length]
     rw [hl];exact ho
theorem add_none (b o i : Nat) : (⟨b,o,none⟩ : Addr).add i = ⟨b,o + i,none⟩:=by
 cases i <;> simp [Addr.add]
theorem cells_lt {w : World} {b o : Nat} {v : Value} (h : w.cell? ⟨b,o,none⟩ = some v) : b < w.heap.size:=by
 apply Classical.byContradiction;intro hn
 simp [World.cell?,Array.getElem?_eq_none (Nat.not_lt.1 hn)] at h
open Go.RowKit Fo Go.Maps
theorem four_offM {w : World} {b : Nat} {t : TypeId} {v0 v1 v2 v3 : Value} (h : w.heap[b]? = some (.cells #[v0, v1, v2, v3] t (0, 0))) :
   w.cell? ⟨b,0,none⟩ = some v0 ∧ w.cell? ⟨b,1,none⟩ = some v1 ∧ w.cell? ⟨b,2,none⟩ = some v2 ∧ w.cell? ⟨b,3,none⟩ = some v3 ∧ ∀ o,w.frozen? ⟨b,o,none⟩ = false:=by
 simp [World.cell?,World.frozen?,h]
theorem slR_shape (r : Option Sl) : ∃ z0 z1 z2 z3 t,slR r = .tuple #[.agg #[.int .i64 z0,.int .i64 z1,.int .i64 z2,.int .i64 z3],.bool t]:=⟨_,_,_,_,_,rfl⟩
theorem mem_len (l : List Sl) : (mergeS l).length ≤ l.length:=by
 have key : ∀ (l acc : List Sl),(l.foldl insS acc).length ≤ acc.length + l.length:=by
   intro l
   induction l with
   | nil => intro acc;simp
   | cons x l ih =>
     intro acc
     have hi : ∀ (l : List Sl),(insS l x).length ≤ l.length + 1:=by
       intro l
       induction l with
       | nil => simp [insS]
       | cons y l ih =>
         unfold insS
         split
         · simp;exact ih
         · split <;> simp
     have h1:=ih (insS acc x)
     have h2:=hi acc
     simp only [List.foldl_cons,List.length_cons]
     omega
 have:=key l []
 simpa [mergeS] using this
theorem chainMerges_in (S : Nat → Prop) (d : Nat) (w : World) (p : Option Addr) (n c : Nat) (vs : List SecV) (l : List Sec) (num : Int) (hR : RArg encSec w (.slice p n c) vs) (hI : SecsIs S (d + 1) w vs l) (hS : ∀ b, S b → b < w.heap.size)
   (hsm : ∀ s ∈ l,smallO (d + 1) s.trail) (hwf : ∀ s ∈ l,∀ x ∈ s.slots,(Lit.int .i64 x.num).wf = true) (hnc : n ≤ c) (hc : c ≤ maxLen) (m : Int) (hm : MaxW w m) :
   Calls Tryz.prog 3 #[.slice p n c,.int .i64 num] w fun e w' => e = .returned (.bool true) ∧ Below w.heap.size w w':=by
 have hmx : n ≤ 9223372036854775807:=by unfold maxLen at hc;omega
 have hvl : vs.length = n:=(rarg_len hR).symm
 have hll : l.length = n:=by rw [← hI.1];exact hvl
 have HLI:=Lh (light_in S (d + 1) w p n c vs l hR hI hS hsm hmx)
 have HL:=Lh (fun (W : World) (hW : MaxW W m) => lives_in W m hW)
 go_enter Tryz.func3,Tryz.ntmps3
 go_wp2_with fail
 refine HLI.out.mono ?_
 rintro e w1 ⟨rfl | ⟨rfl,hn20,hs40⟩,hb1⟩
 · have hz1:=hb1.size
   go_wp2_with fail
   refine (HL.out _ (hm.below hb1)).mono ?_
   rintro e w2 ⟨rfl,hb2⟩
   go_wp2
   go_ret
   exact ⟨rfl,hb1.trans (hb2.mono hz1)⟩
 · have hz1:=hb1.size
   have HR:=Lh (fun (W : World) (hW : Below w1.heap.size w1 W) => (hR.below hb1).below hW)
   have HI:=Lh (fun (W : World) (hW : Below w1.heap.size w1 W) => (hI.below hS hb1).below (fun b h => Nat.lt_of_lt_of_le (hS b h) hz1) hW)
   have HW:=Lh (And.intro hwf (And.intro hs40 (And.intro hvl (And.intro hll (And.intro hS hsm)))))
   have hm1:=hm.below hb1
   clear hR hI hS hsm hwf hs40 hvl hll HLI hm
   have hA : (allS l).length ≤ 800:=by have:=allS_le l HW.out.2.1;rw [HW.out.2.2.2.1] at this;omega
   go_wp2_with fail
   refine (merge_in S (d + 1) w1 p n c vs l (HR.out _ (Below.refl _ _)) (HI.out _ (Below.refl _ _)) (fun b h => Nat.lt_of_lt_of_le (HW.out.2.2.2.2.1 b h) hz1) (by omega) (fun s hs => by have:=HW.out.2.1 s hs;omega) HW.out.1).mono ?_
   rintro e w2 ⟨v,rfl,hrow,hb2⟩
   have hz2:=hb2.size
   obtain ⟨vp,vc,rfl⟩:=rown_slice hrow
   have HV:=Lh (fun (W : World) (hW : Below w2.heap.size w2 W) => (rownS.arg hrow).below hW)
   obtain ⟨M,hM⟩ : ∃ M,mergeS (allS l) = M:=⟨_,rfl⟩
   have hM8 : M.length ≤ 800:=by rw [← hM];exact Nat.le_trans (mem_len _) hA
   have HME:=Lh hM
   rw [hM] at HV
   simp only [hM]
   obtain ⟨N,hN⟩ : ∃ N,M.length = N:=⟨_,rfl⟩
   simp only [hN]
   rw [hN] at HV
   have HN:=Lh hN
   clear hrow hA hM
   go_wp2_with fail
   refine (rmerge_in S (d + 1) w2 p n c vs l (HR.out _ hb2) (HI.out _ hb2) (fun b h => by have:=HW.out.2.2.2.2.1 b h;omega) hn20 HW.out.2.1).mono ?_
   rintro e w3 ⟨v3,rfl,hrow3,hb3⟩
   have hz3:=hb3.size
   obtain ⟨vp3,vc3,rfl⟩:=rown_slice hrow3
   have HV3:=Lh (fun (W : World) (hW : Below w3.heap.size w3 W) => (rownS.arg hrow3).below hW)
   rw [HME.out,HN.out] at HV3
   rw [HME.out,HN.out]
   have hbw3:=hb2.trans (hb3.mono hz2)
   obtain ⟨z0,z1,z2,z3,bt,hsl⟩:=slR_shape (numF num M)
   have HF1:=Lh (fun (W : World) (hW : Below w2.heap.size w2 W) => cfind_in (.slice vp N vc) M num W (HV.out _ hW) (by omega))
   have HF2:=Lh (fun (W : World) (hW : Below w3.heap.size w3 W) => rfind_in (.slice vp3 N vc3) M num W (HV3.out _ hW) (by omega))
   rw [hsl] at HF1 HF2
   clear hrow3 hsl
   go_wp2_with fail
   refine (HF1.out _ hb3).mono ?_
   rintro e w4 ⟨rfl,hb4⟩
   have hz4:=hb4.size
   clear HF1
   go_upto_region 5 with fail
   obtain ⟨w5,hw5⟩ : ∃ w5,w4.alloc (.cells #[.int .i64 z0,.int .i64 z1,.int .i64 z2,.int .i64 z3] 28) = w5:=⟨_,rfl⟩
   have hX5 : w5.heap[w4.heap.size]? = some (.cells #[.int .i64 z0,.int .i64 z1,.int .i64 z2,.int .i64 z3] 28 (0,0)):=by rw [← hw5];exact heap_new_at _ _ _ rfl
   have hb35 : Below w3.heap.size w3 w5:=by rw [← hw5];exact hb4.alloc hz4 _
   have hz5 : w5.heap.size = w4.heap.size + 1:=by rw [← hw5];simp
   rw [hw5]
   clear hw5 hb4
   go_wp2_with fail
   refine (HF2.out _ hb35).mono ?_
   rintro e w6 ⟨rfl,hb6⟩
   have hz6:=hb6.size
   clear HF2
   have hX6:=(hb6.block _ (by omega)).trans hX5
   go_upto_region 6 with fail
   obtain ⟨w7,hw7⟩ : ∃ w7,w6.alloc (.cells #[.int .i64 z0,.int .i64 z1,.int .i64 z2,.int .i64 z3] 28) = w7:=⟨_,rfl⟩
   have hb67 : Below w6.heap.size w6 w7:=by rw [← hw7];exact bel
   have hX7:=(hb67.block _ (by omega)).trans hX6
   have hY7 : w7.heap[w6.heap.size]? = some (.cells #[.int .i64 z0,.int .i64 z1,.int .i64 z2,.int .i64 z3] 28 (0,0)):=by rw [← hw7];exact heap_new_at _ _ _ rfl
   have hz7 : w7.heap.size = w6.heap.size + 1:=by rw [← hw7];simp
   rw [hw7]
   have hb37 : Below w3.heap.size w3 w7:=(hb35.trans (hb6.mono hb35.size)).trans (hb67.mono (by omega))
   have hb27 : Below w2.heap.size w2 w7:=hb3.trans (hb37.mono hz3)
   have hb17 : Below w1.heap.size w1 w7:=hb2.trans (hb27.mono hz2)
   clear hw7 hX5 hX6 hb35 hb6 hb67
   obtain ⟨g1,hg1⟩ : ∃ g,w4.heap.size = g:=⟨_,rfl⟩
   obtain ⟨g2,hg2⟩ : ∃ g,w6.heap.size = g:=⟨_,rfl⟩
   rw [hg1] at hX7 ⊢
   rw [hg2] at hY7 ⊢
   have hKS:=kslots (.slice vp N vc) (.slice vp3 N vc3) M w7 (HV.out _ hb27) (HV3.out _ hb37) (by omega)
   have HKS:=Lh hKS
   clear hKS
   go_wp2_with fail
   refine HKS.out.mono ?_
   rintro e w8 ⟨rfl,hb8⟩
   have hX8:=(hb8.block _ (lt_of_block hX7)).trans hX7
   have hY8:=(hb8.block _ (lt_of_block hY7)).trans hY7
   have hb18:=hb17.trans (hb8.mono hb17.size)
   have hz8:=hb18.size
   obtain ⟨a0,a1,a2,a3,af⟩:=four_offM hX8
   obtain ⟨c0,c1,c2,c3,cf⟩:=four_offM hY8
   have HCT:=Lh (ctrailer_in S d w8 p n c vs l (HR.out _ hb18) (HI.out _ hb18) (fun b h => by have:=HW.out.2.2.2.2.1 b h;omega) HW.out.2.2.2.2.2)
   clear HKS hX7 hY7 hb8
   go_wp2_with fail
   refine HCT.out.mono ?_
   rintro e w9 ⟨q1,e1,m1,q2,e2,m2,rfl,hO9,hb9⟩
   have hb19:=hb18.trans (hb9.mono hz8)
   have hz9:=hb19.size
   have hz89:=hb9.size
   have HO9:=Lh hO9
   have HRT:=Lh (rctrailer_in S d w9 p n c vs l (HR.out _ hb19) (HI.out _ hb19) (fun b h => by have:=HW.out.2.2.2.2.1 b h;omega) HW.out.2.2.2.2.2)
   clear HCT hO9 a0 a1 a2 a3 af c0 c1 c2 c3 cf hX8 hY8
   go_wp2_with fail
   refine HRT.out.mono ?_
   rintro e w10 ⟨r1,f1,k1,r2,f2,k2,rfl,hO10,hb10⟩
   have hz10:=hb10.size
   have hb110:=hb19.trans (hb10.mono hz9)
   have hA1 : ObjAt (fun b => b < w10.heap.size) (d + 1) w10 (objCells 7 0 0 [] (.slice q1 e1 m1) (.slice q2 e2 m2)) (trailC l) :=
     HO9.out.grow fun b _ hb => ⟨by omega,hb10.block b hb⟩
   have hA2 : ObjAt (fun b => b < w10.heap.size) (d + 1) w10 (objCells 7 0 0 [] (.slice r1 f1 k1) (.slice r2 f2 k2)) (trailC l) :=
     hO10.weaken (fun b _ hb => hb) _
   have HSA:=Lh (same_in (fun b => b < w10.heap.size) (d + 1) w10 _ _ (trailC l) hA1 hA2 (trailC_small HW.out.2.2.2.2.2) (fun b h => h))
   unfold objCells at HSA
   have hm10:=hm1.below hb110
   have HLW:=Lh (fun (W : World) (hW : Below w10.heap.size w10 W) => HL.out W (hm10.below hW))
   clear HRT hO10 hA1 hA2 HO9 hb9 hb10
   go_wp2_with fail
   refine HSA.out.mono ?_
   rintro e w11 ⟨rfl,hb11⟩
   have hb111:=hb110.trans (hb11.mono (by omega))
   clear HSA
   go_wp2_with fail
   refine (HLW.out _ hb11).mono ?_
   rintro e w12 ⟨rfl,hb12⟩
   have hb112:=hb111.trans (hb12.mono hb111.size)
   go_wp2_with fail
   go_ret
   exact ⟨rfl,hb1.trans (hb112.mono hz1)⟩
open Go.RowKit Fo Go.ChangeShapes
theorem smallO_up : ∀ (d : Nat) (o : Ob),smallO d o → smallO (d + 1) o
 | 0,_,h => h.elim
 | d + 1,o,h => ⟨h.1,h.2.1,h.2.2.1,h.2.2.2.1,fun k hk => smallO_up d k (h.2.2.2.2 k hk)⟩
def WOk {H : Type} (t : TypeId) (d : DataW H) : Prop:=∀ n ∈ d.weights Tryz.prog t,n ≤ reachBytes
theorem wok_each {H : Type} {ts : List TypeId} {ds : List (DataW H)} (h : ∀ n ∈ DataW.weightsEach Tryz.prog ts ds,n ≤ reachBytes) {j : Nat} {t : TypeId} {d : DataW H} (ht : ts[j]? = some t) (hd : ds[j]? = some d) : WOk t d :=
 fun n hn => h n (DataW.weights_mem_each ht hd n hn)
theorem wok_all {H : Type} {e : TypeId} : ∀ {ds : List (DataW H)},(∀ n ∈ DataW.weightsAll Tryz.prog e ds,n ≤ reachBytes) → ∀ (j : Nat) (d : DataW H),ds[j]? = some d → WOk e d
 | [],_,j,d,hd => by simp at hd
 | d0 :: ds,h,0,d,hd => by
   simp only [List.getElem?_cons_zero,Option.some.injEq] at hd
   subst hd
   exact fun n hn => h n (by simp only [DataW.weightsAll,List.mem_append];exact .inl hn)
 | d0 :: ds,h,j + 1,d,hd => wok_all (ds:=ds) (fun n hn => h n (by simp only [DataW.weightsAll,List.mem_append];exact .inr hn)) j d (by simpa using hd)
theorem wok_slice {H : Type} {t e : TypeId} {elems spare : List (DataW H)} (hu : Tryz.prog.underlying t = some (.slice e)) (h : WOk t (.slice elems spare)) :
   (elems.length + spare.length) * Tryz.prog.bytesOf e ≤ reachBytes ∧ ∀ (j : Nat) (d : DataW H),elems[j]? = some d → WOk e d:=by
 unfold WOk at h
 simp only [DataW.weights,hu,List.mem_cons,List.mem_append] at h
 exact ⟨h _ (.inl rfl),wok_all fun n hn => h n (.inr (.inl hn))⟩
theorem wok_str {H : Type} {t : TypeId} {s : List UInt8} (h : WOk (H:=H) t (.lit (.string s))) : s.length ≤ reachBytes:=by
 unfold WOk at h
 exact h _ (by simp [DataW.weights])
theorem wok_struct {H : Type} {t : TypeId} {fs : Array Field} {ds : List (DataW H)} (hu : Tryz.prog.underlying t = some (.struct fs)) (h : WOk t (.agg ds)) : ∀ n ∈ DataW.weightsEach Tryz.prog (fs.toList.map (·.type)) ds,n ≤ reachBytes:=by
 unfold WOk at h
 simpa only [DataW.weights,hu] using h
theorem reach_lt : reachBytes ≤ 140737488355328:=by decide
theorem open_objW {H : Type} {enc : TypeId × Value → H} {W : World} {sp : Nat → Bool} {hd : Bool} : ∀ (fuel : Nat) (cs : List Value) (x : DataW H × List MemPlace),
   DataW.trod enc Tryz.prog W 0 sp hd fuel 36 cs = some x → ∃ o : Ob,ObjAt (fun b => b < W.heap.size) fuel W cs o ∧ (WOk 36 x.1 → smallO fuel o):=by
 intro fuel
 induction fuel using Nat.strongRecOn with
 | _ fuel ih =>
   intro cs x h
   obtain ⟨xs,n,rfl,rfl,hl,hlen,hf⟩:=DataW.trod_struct Tryz.underlying36 h
   have z1 : Tryz.prog.cellsOf 36 = 6:=by kernel_rfl
   have z2 : Tryz.prog.cellsOf 3 = 1:=by kernel_rfl
   have z3 : Tryz.prog.cellsOf 2 = 1:=by kernel_rfl
   have z4 : Tryz.prog.cellsOf 9 = 1:=by kernel_rfl
   have z5 : Tryz.prog.cellsOf 33 = 1:=by kernel_rfl
   have z6 : Tryz.prog.cellsOf 34 = 1:=by kernel_rfl
   have y4 : Tryz.prog.bytesOf 9 = 16:=by kernel_rfl
   have y6 : Tryz.prog.bytesOf 36 = 88:=by kernel_rfl
   have hrl:=reach_lt
   rw [z1] at hl
   match cs,hl with
   | [c0,c1,c2,c3,c4,c5],_ =>
     match xs,hlen with
     | [x0,x1,x2,x3,x4,x5],_ =>
       have f0:=hf 0 _ rfl
       have f1:=hf 1 _ rfl
       have f2:=hf 2 _ rfl
       have f3:=hf 3 _ rfl
       have f4:=hf 4 _ rfl
       have f5:=hf 5 _ rfl
       simp only [z2,z3,z4,z5,z6,List.drop_zero,List.drop_succ_cons,List.take_succ_cons,List.take_zero,List.getElem?_cons_zero,List.getElem?_cons_succ] at f0 f1 f2 f3 f4 f5
       obtain ⟨k,e0,_⟩:=DataW.trod_int Tryz.underlying3 f0
       obtain ⟨nn,e1,_⟩:=DataW.trod_int Tryz.underlying2 f1
       obtain ⟨g,e2,_⟩:=DataW.trod_int Tryz.underlying3 f2
       obtain ⟨s,e3,q3⟩:=DataW.trod_string Tryz.underlying9 f3
       cases e0
       cases e1
       cases e2
       cases e3
       have HK : ∃ ks : List L,KeysAt (fun b => b < W.heap.size) W c4 ks ∧ (WOk 33 x4.1 → ks.length ≤ 140737488355328 ∧ ∀ x ∈ ks,x.length ≤ 140737488355328):=by
         rcases DataW.trod_slice Tryz.underlying33 f4 with ⟨hc,_⟩ | ⟨a,len,cap,elems,rest,m,rfl,hc,hxe,_,_,_,hel,hx,_⟩
         · cases hc;exact ⟨[],.inl ⟨rfl,_,_,rfl⟩,fun _ => ⟨by simp,by simp⟩⟩
         · cases hc
           rw [z4] at hx
           obtain ⟨l,hl,hp⟩:=list_of_each (p:=fun i (y : L) => W.cell? (a.add i) = some (.string ⟨y.toArray⟩) ∧ ∀ z,elems[i]? = some z → z.1 = .lit (.string y)) len (fun i hi => by
             have h1:=hx i hi
             rw [Nat.mul_one,List.getElem?_eq_getElem (by omega)] at h1
             obtain ⟨cs',h2,h3⟩:=Option.bind_eq_some_iff.1 h1
             obtain ⟨_,hlen',hcell⟩:=World.cells?_some h2
             obtain ⟨y,hy,hyz⟩:=DataW.trod_string Tryz.underlying9 h3
             subst hy
             have:=hcell 0 (by omega)
             refine ⟨y.data.toList,?_,fun z hz => ?_⟩
             · simpa [Addr.add] using this
             · rw [List.getElem?_eq_getElem (by omega)] at hz
               cases hz
               rw [hyz.1])
           have hbk : WOk 33 x4.1 → l.length ≤ 140737488355328 ∧ ∀ x ∈ l,x.length ≤ 140737488355328:=fun hw => by
             rw [hxe] at hw
             obtain ⟨w1,w2⟩:=wok_slice Tryz.underlying33 hw
             rw [y4,List.length_map] at w1
             refine ⟨by omega,fun x hxm => ?_⟩
             obtain ⟨i,hi,rfl⟩:=List.mem_iff_getElem.1 hxm
             have he : elems[i]? = some elems[i]:=List.getElem?_eq_getElem (by omega)
             have:=wok_str (t:=9) (by have h:=w2 i _ (by rw [List.getElem?_map,he];rfl);dsimp only at h;rw [(hp i hi).2 _ he] at h;exact h)
             omega
           by_cases h0 : len = 0
           · subst h0;exact ⟨[],.inl ⟨rfl,_,_,rfl⟩,fun _ => ⟨by simp,by simp⟩⟩
           · obtain ⟨b,o,spot⟩:=a
             have h00:=(hp 0 (by omega)).1
             have hspot : spot = none:=by simpa [Addr.add] using World.cell?_spot h00
             subst hspot
             refine ⟨l,.inr ⟨b,o,cap,by rw [hl],cells_lt (by simpa [Addr.add] using h00),fun i hi => ?_⟩,hbk⟩
             have:=(hp i hi).1
             rw [add_none] at this;exact this
       have HD : (∃ p c, c5 = .slice p 0 c) ∨ ∃ (b off c : Nat) (os : List Ob), (WOk 34 x5.1 → os.length ≤ 140737488355328 ∧ ∀ o ∈ os, smallO n o) ∧ c5 = .slice (some ⟨b, off, none⟩) os.length c ∧ b < W.heap.size ∧ os ≠ [] ∧
           ∀ i (h : i < os.length),∃ ks : List Value,ks.length = 6 ∧ (∀ j (hj : j < ks.length),W.cell? ⟨b,off + 6 * i + j,none⟩ = some ks[j]) ∧ ObjAt (fun b => b < W.heap.size) n W ks os[i]:=by
         rcases DataW.trod_slice Tryz.underlying34 f5 with ⟨hc,_⟩ | ⟨a,len,cap,elems,rest,m,rfl,hc,hxe,_,_,_,hel,hx,_⟩
         · cases hc;exact .inl ⟨_,_,rfl⟩
         · cases hc
           rw [z1] at hx
           obtain ⟨l,hl,hp⟩:=list_of_each (p:=fun i (o : Ob) => ∃ ks : List Value,ks.length = 6 ∧ (∀ j (hj : j < ks.length),W.cell? ((a.add (i * 6)).add j) = some ks[j]) ∧ ObjAt (fun b => b < W.heap.size) (m + 1) W ks o ∧ ∀ z,elems[i]? = some z → WOk 36 z.1 → smallO (m + 1) o) len (fun i hi => by
             have h1:=hx i hi
             rw [List.getElem?_eq_getElem (by omega)] at h1
             obtain ⟨cs',h2,h3⟩:=Option.bind_eq_some_iff.1 h1
             obtain ⟨_,hlen',hcell⟩:=World.cells?_some h2
             obtain ⟨o,ho,hbo⟩:=ih m (by omega) cs' _ h3
             refine ⟨o,cs',hlen',fun j hj => ?_,ObjAt.up m ho,fun z hz hw => ?_⟩
             · rw [hcell j (by omega)];exact List.getElem?_eq_getElem hj
             · rw [List.getElem?_eq_getElem (by omega)] at hz
               cases hz
               exact smallO_up m o (hbo hw))
           have hbk : WOk 34 x5.1 → l.length ≤ 140737488355328 ∧ ∀ o ∈ l,smallO (m + 1) o:=fun hw => by
             rw [hxe] at hw
             obtain ⟨w1,w2⟩:=wok_slice Tryz.underlying34 hw
             rw [y6,List.length_map] at w1
             refine ⟨by omega,fun x hxm => ?_⟩
             obtain ⟨i,hi,rfl⟩:=List.mem_iff_getElem.1 hxm
             have he : elems[i]? = some elems[i]:=List.getElem?_eq_getElem (by omega)
             obtain ⟨_,_,_,_,g⟩:=hp i hi
             exact g _ he (w2 i _ (by rw [List.getElem?_map,he];rfl))
           by_cases h0 : len = 0
           · subst h0;exact .inl ⟨_,_,rfl⟩
           · obtain ⟨b,o,spot⟩:=a
             obtain ⟨ks,hk6,hkc,_,_⟩:=hp 0 (by omega)
             have h00:=hkc 0 (by omega)
             have hspot : spot = none:=by simpa [Addr.add] using World.cell?_spot h00
             subst hspot
             refine .inr ⟨b,o,cap,l,hbk,by rw [hl],cells_lt (by simpa [Addr.add] using h00),by intro hh;rw [hh] at hl;simp at hl;omega,fun i hi => ?_⟩
             obtain ⟨ks,g1,g2,g3,_⟩:=hp i hi
             refine ⟨ks,g1,fun j hj => ?_,g3⟩
             have:=g2 j hj
             rw [add_none,add_none] at this
             rw [Nat.mul_comm 6 i]
             exact this
       obtain ⟨ks,hks,hkb⟩:=HK
       have hws : ∀ (hw : WOk 36 (.agg ([x0,x1,x2,x3,x4,x5].map (·.1)))),s.data.toList.length ≤ 140737488355328 ∧ WOk 33 x4.1 ∧ WOk 34 x5.1:=fun hw => by
         have hw:=wok_struct Tryz.underlying36 hw
         refine ⟨?_,wok_each hw (j:=4) rfl rfl,wok_each hw (j:=5) rfl rfl⟩
         have h3 : WOk 9 x3.1:=wok_each hw (j:=3) rfl rfl
         rw [q3.1] at h3
         have:=wok_str h3
         omega
       rcases HD with ⟨p,c,rfl⟩ | ⟨b,off,c,os,hob,rfl,hb,hne,hos⟩
       · refine ⟨.mk k nn g s.data.toList ks [],⟨c4,.slice p 0 c,by simp [objCells,Ob.kind,Ob.n,Ob.g,Ob.s],hks,.inl ⟨rfl,_,_,rfl⟩⟩,fun hw => ?_⟩
         obtain ⟨w1,w2,w3⟩:=hws hw
         exact ⟨(hkb w2).1,Nat.zero_le _,w1,(hkb w2).2,fun k hk => by cases hk⟩
       · refine ⟨.mk k nn g s.data.toList ks os,⟨c4,_,by simp [objCells,Ob.kind,Ob.n,Ob.g,Ob.s];rfl,hks,.inr ⟨b,off,c,rfl,hb,hos⟩⟩,fun hw => ?_⟩
         obtain ⟨w1,w2,w3⟩:=hws hw
         exact ⟨(hkb w2).1,(hob w3).1,w1,(hkb w2).2,fun k hk => (hob w3).2 k hk⟩
theorem open_slot {H : Type} {enc : TypeId × Value → H} {W : World} {sp : Nat → Bool} {hd : Bool} {fuel : Nat} {cs : List Value} {x : DataW H × List MemPlace} (h : DataW.trod enc Tryz.prog W 0 sp hd fuel 28 cs = some x) :
   ∃ y : Sl,cs = slE.cells y ∧ (Lit.int .i64 y.num).wf = true:=by
 obtain ⟨xs,n,rfl,rfl,hl,hlen,hf⟩:=DataW.trod_struct Tryz.underlying28 h
 have z1 : Tryz.prog.cellsOf 28 = 4:=by kernel_rfl
 have z2 : Tryz.prog.cellsOf 3 = 1:=by kernel_rfl
 rw [z1] at hl
 match cs,hl with
 | [c0,c1,c2,c3],_ =>
   match xs,hlen with
   | [x0,x1,x2,x3],_ =>
     have f0:=hf 0 _ rfl
     have f1:=hf 1 _ rfl
     have f2:=hf 2 _ rfl
     have f3:=hf 3 _ rfl
     simp only [z2,List.drop_zero,List.drop_succ_cons,List.take_succ_cons,List.take_zero,List.getElem?_cons_zero,List.getElem?_cons_succ] at f0 f1 f2 f3
     obtain ⟨k0,e0,q0⟩:=DataW.trod_int Tryz.underlying3 f0
     obtain ⟨k1,e1,_⟩:=DataW.trod_int Tryz.underlying3 f1
     obtain ⟨k2,e2,_⟩:=DataW.trod_int Tryz.underlying3 f2
     obtain ⟨k3,e3,_⟩:=DataW.trod_int Tryz.underlying3 f3
     cases e0
     cases e1
     cases e2
     cases e3
     exact ⟨⟨k0,k1,k2,k3⟩,rfl,q0.2⟩
theorem open_row {α : Type} (E : Enc α) (hk0 : 0 < E.k) {q : α → Prop} {W : World} {a : Addr} {n c : Nat} (h : ∀ i, i < n → ∃ y : α, (∀ j u, (E.cells y)[j]? = some u → W.cell? ((a.add (i * E.k)).add j) = some u) ∧ q y) :
   ∃ l : List α,l.length = n ∧ RArg E W (.slice (some a) n c) l ∧ ∀ x ∈ l,q x:=by
 obtain ⟨l,hl,hp2⟩:=list_of_each n h
 have hp:=fun i hi => (hp2 i hi).1
 refine ⟨l,hl,⟨some a,c,by rw [hl],fun k hk => ?_⟩,fun x hx => by obtain ⟨i,hi,rfl⟩:=List.mem_iff_getElem.1 hx;exact (hp2 i hi).2⟩
 obtain ⟨b,o,spot⟩:=a
 have h0:=hp k hk 0 _ (List.getElem?_eq_getElem (by rw [E.len];exact hk0))
 have h00:=hp 0 (by omega) 0 _ (List.getElem?_eq_getElem (by rw [E.len];exact hk0))
 have hspot : spot = none:=by
   rw [Nat.zero_mul] at h00
   simpa [Addr.add] using World.cell?_spot h00
 subst hspot
 rw [add_none,add_none] at h0
 refine ⟨b,o,rfl,cells_lt h0,fun i u hu => ?_⟩
 have:=hp k hk i u hu
 rw [add_none,add_none] at this
 exact this
theorem open_slots {H : Type} {enc : TypeId × Value → H} {W : World} {sp : Nat → Bool} {hd : Bool} {fuel : Nat} {cs : List Value} {x : DataW H × List MemPlace} (h : DataW.trod enc Tryz.prog W 0 sp hd fuel 25 cs = some x) :
   ∃ p n c l,cs = [.slice p n c] ∧ n = l.length ∧ n ≤ c ∧ RArg slE W (.slice p n c) l ∧ ∀ x ∈ l,(Lit.int .i64 x.num).wf = true:=by
 have z1 : Tryz.prog.cellsOf 28 = 4:=by kernel_rfl
 rcases DataW.trod_slice Tryz.underlying25 h with ⟨hc,_⟩ | ⟨a,len,cap,elems,rest,m,rfl,hc,_,_,hcap,hmax,hel,hx,_⟩
 · exact ⟨none,0,0,[],hc,rfl,Nat.le_refl _,RArg.nil W,fun x hx => by cases hx⟩
 · rw [z1] at hx
   obtain ⟨l,hl,hR,hq⟩:=open_row slE (by decide) (q:=fun x => (Lit.int .i64 x.num).wf = true) (W:=W) (a:=a) (n:=len) (c:=cap) (fun i hi => by
     have h1:=hx i hi
     rw [List.getElem?_eq_getElem (by omega)] at h1
     obtain ⟨cs',h2,h3⟩:=Option.bind_eq_some_iff.1 h1
     obtain ⟨_,hlen',hcell⟩:=World.cells?_some h2
     obtain ⟨y,rfl,hwf⟩:=open_slot h3
     refine ⟨y,fun j u hu => ?_,hwf⟩
     have hj : j < 4:=(List.getElem?_eq_some_iff.1 hu).1
     exact (hcell j (by omega)).trans hu)
   exact ⟨some a,len,cap,l,hc,hl.symm,hcap,hR,hq⟩
theorem open_sec {H : Type} {enc : TypeId × Value → H} {W : World} {sp : Nat → Bool} {hd : Bool} (fuel : Nat) (cs : List Value) (x : DataW H × List MemPlace)
   (h : DataW.trod enc Tryz.prog W 0 sp hd fuel 40 cs = some x) : ∃ (y : SecV) (s : Sec),cs = encSec.cells y ∧ SecIs (fun b => b < W.heap.size) fuel W y s ∧ (∀ x ∈ s.slots,(Lit.int .i64 x.num).wf = true) ∧ (WOk 40 x.1 → smallO fuel s.trail):=by
 obtain ⟨xs,n,rfl,rfl,hl,hlen,hf⟩:=DataW.trod_struct Tryz.underlying40 h
 have z1 : Tryz.prog.cellsOf 40 = 11:=by kernel_rfl
 have z2 : Tryz.prog.cellsOf 3 = 1:=by kernel_rfl
 have z3 : Tryz.prog.cellsOf 36 = 6:=by kernel_rfl
 have z4 : Tryz.prog.cellsOf 25 = 1:=by kernel_rfl
 rw [z1] at hl
 match cs,hl with
 | [c0,c1,c2,c3,c4,c5,c6,c7,c8,c9,c10],_ =>
   match xs,hlen with
   | [x0,x1,x2,x3,x4,x5],_ =>
     have f0:=hf 0 _ rfl
     have f1:=hf 1 _ rfl
     have f2:=hf 2 _ rfl
     have f3:=hf 3 _ rfl
     have f4:=hf 4 _ rfl
     have f5:=hf 5 _ rfl
     simp only [z2,z3,z4,List.drop_zero,List.drop_succ_cons,List.take_succ_cons,List.take_zero,List.getElem?_cons_zero,List.getElem?_cons_succ] at f0 f1 f2 f3 f4 f5
     obtain ⟨k0,e0,_⟩:=DataW.trod_int Tryz.underlying3 f0
     obtain ⟨p,m,c,l,e1,hn,hcap,hR,hq⟩:=open_slots f1
     replace f2 : DataW.trod enc Tryz.prog W 0 sp hd n 36 (List.take (Tryz.prog.cellsOf 36) (List.drop 2 [c0,c1,c2,c3,c4,c5,c6,c7,c8,c9,c10])) = some x2:=f2
     rw [z3] at f2
     obtain ⟨o,hO,hsm⟩:=open_objW _ _ _ f2
     simp only [List.drop_succ_cons,List.drop_zero,List.take_succ_cons,List.take_zero] at hO
     obtain ⟨k3,e3,_⟩:=DataW.trod_int Tryz.underlying3 f3
     obtain ⟨k4,e4,_⟩:=DataW.trod_int Tryz.underlying3 f4
     obtain ⟨k5,e5,_⟩:=DataW.trod_int Tryz.underlying3 f5
     cases e0
     cases e1
     cases e3
     cases e4
     cases e5
     obtain ⟨p1,n1,q1,p2,n2,q2,hcs⟩:=hO.shape
     unfold objCells at hcs
     simp only [List.cons.injEq,and_true] at hcs
     obtain ⟨rfl,rfl,rfl,rfl,rfl,rfl⟩:=hcs
     refine ⟨⟨k0,p,m,c,o.kind,o.n,o.g,⟨o.s.toArray⟩,p1,n1,q1,p2,n2,q2,k3,k4,k5⟩,⟨k0,l,o,k3,k4,k5⟩,rfl,⟨rfl,rfl,rfl,rfl,hn,hR,ObjAt.up _ hO⟩,hq,fun hw => ?_⟩
     have hw:=wok_struct Tryz.underlying40 hw
     exact smallO_up _ _ (hsm (wok_each hw (j:=2) rfl rfl))
theorem open_secs {H : Type} {enc : TypeId × Value → H} {W : World} {sp : Nat → Bool} {hd : Bool} {fuel : Nat} {cs : List Value} {x : DataW H × List MemPlace} (h : DataW.trod enc Tryz.prog W 0 sp hd fuel 22 cs = some x) :
   ∃ p n c vs l,cs = [.slice p n c] ∧ n = l.length ∧ n ≤ c ∧ c ≤ maxLen ∧ RArg encSec W (.slice p n c) vs ∧ SecsIs (fun b => b < W.heap.size) fuel W vs l ∧ (p = none → c = 0) ∧ (∀ s ∈ l,∀ x ∈ s.slots,(Lit.int .i64 x.num).wf = true) ∧ (WOk 22 x.1 → ∀ s ∈ l,smallO fuel s.trail):=by
 have z1 : Tryz.prog.cellsOf 40 = 11:=by kernel_rfl
 rcases DataW.trod_slice Tryz.underlying22 h with ⟨hc,_⟩ | ⟨a,len,cap,elems,rest,m,rfl,hc,hxe,_,hcap,hmax,hel,hx,_⟩
 · exact ⟨none,0,0,[],[],hc,rfl,Nat.le_refl _,Nat.zero_le _,RArg.nil W,⟨rfl,fun i v s h => by simp at h⟩,fun _ => rfl,(fun s hs => by cases hs),(fun _ s hs => by cases hs)⟩
 · rw [z1] at hx
   obtain ⟨l, hl, hp⟩ := list_of_each (p := fun i (y : SecV × Sec) => (∀ j u, (encSec.cells y.1)[j]? = some u → W.cell? ((a.add (i * encSec.k)).add j) = some u) ∧ SecIs (fun b => b < W.heap.size) (m + 1) W y.1 y.2 ∧ (∀ x ∈ y.2.slots, (Lit.int .i64 x.num).wf = true) ∧
       ∀ z,elems[i]? = some z → WOk 40 z.1 → smallO (m + 1) y.2.trail) len (fun i hi => by
     have h1:=hx i hi
     rw [List.getElem?_eq_getElem (by omega)] at h1
     obtain ⟨cs',h2,h3⟩:=Option.bind_eq_some_iff.1 h1
     obtain ⟨_,hlen',hcell⟩:=World.cells?_some h2
     obtain ⟨y,s,rfl,hs,hq,hw⟩:=open_sec _ _ _ h3
     refine ⟨(y,s),fun j u hu => ?_,⟨hs.at',hs.prev,hs.hyb,hs.own,hs.len,hs.slots,ObjAt.up _ hs.trail⟩,hq,fun z hz hwz => ?_⟩
     · have hj : j < 11:=(List.getElem?_eq_some_iff.1 hu).1
       exact (hcell j (by omega)).trans hu
     · rw [List.getElem?_eq_getElem (by omega)] at hz
       cases hz
       exact smallO_up _ _ (hw hwz))
   obtain ⟨vs,hvl,hR,_⟩:=open_row encSec (by decide) (q:=fun _ => True) (W:=W) (a:=a) (n:=len) (c:=cap) (fun i hi => ⟨(l[i]'(by omega)).1,(hp i (by omega)).1,trivial⟩)
   have hR2 : RArg encSec W (.slice (some a) len cap) (l.map (·.1)):=by
     refine ⟨some a,cap,by rw [List.length_map,hl],fun k hk => ?_⟩
     rw [List.length_map] at hk
     obtain ⟨p',c',e,hh⟩:=hR
     cases e
     obtain ⟨g,off,e1,e2,_⟩:=hh k (by omega)
     cases e1
     refine ⟨g,off,rfl,e2,fun i u hu => ?_⟩
     rw [List.getElem_map] at hu
     have:=(hp k hk).1 i u hu
     rw [add_none,add_none] at this
     exact this
   refine ⟨some a,len,cap,l.map (·.1),l.map (·.2),hc,by rw [List.length_map,hl],hcap,hmax,hR2,⟨by simp,fun i v s hv hs => ?_⟩,(fun e => by cases e),fun s hs => ?_,fun hw s hs => ?_⟩
   · rw [List.getElem?_map] at hv hs
     cases hi : l[i]? with
     | none => rw [hi] at hv;cases hv
     | some y =>
       rw [hi] at hv hs
       cases hv
       cases hs
       obtain ⟨hlt,rfl⟩:=List.getElem?_eq_some_iff.1 hi
       exact (hp i hlt).2.1
   · obtain ⟨y,hy,rfl⟩:=List.mem_map.1 hs
     obtain ⟨i,hi,rfl⟩:=List.mem_iff_getElem.1 hy
     exact (hp i hi).2.2.1
   · rw [hxe] at hw
     obtain ⟨_,w2⟩:=wok_slice Tryz.underlying22 hw
     obtain ⟨y,hy,rfl⟩:=List.mem_map.1 hs
     obtain ⟨i,hi,rfl⟩:=List.mem_iff_getElem.1 hy
     have he : elems[i]? = some elems[i]:=List.getElem?_eq_getElem (by omega)
     exact (hp i hi).2.2.2 _ he (w2 i _ (by rw [List.getElem?_map,he];rfl))
open Go.ChangeShapes Go.WideShapes Go.ChangeAt Go.RowKit
theorem ownK : ownKnob Tryz.prog.godebug = none:=by kernel_rfl
theorem maxW_of {W : World} (h : W.ShapedOpen Tryz.prog) : ∃ m,MaxW W m:=Tryz.laysM143.s1_3 W h
theorem post_below {H : Type} {enc : TypeId × Value → H} {P : Program} {f : Func} {s : ChangeSpec} {apart fresh handsOn again : Bool} {W W' : World} {args : Array Value} {v : Value} {ds gs : List (DataW H)} {before pa pv : List MemPlace}
   (hW : DataW.Whole enc P f.params.toList s.vars apart W args.toList ds gs before)
   (hres : ∀ (b : Nat) (sp : Nat → Bool) (hd : Bool),DataW.TrodAll enc P W' b sp hd f.resultTypes.toList (v.resultList f.resultTypes.size) (s.fn H (ds ++ gs)).results [])
   (hargs : ∀ sp : Nat → Bool,(∀ p ∈ before,sp p.block = true) → DataW.TrodAll enc P W' 0 sp true f.params.toList args.toList (s.fn H (ds ++ gs)).args pa)
   (hvars : ∀ sp : Nat → Bool,(∀ p ∈ before,sp p.block = true) → DataW.TrodVars enc P W' sp s.vars (s.fn H (ds ++ gs)).vars pv)
   (hps : before = pa ++ pv) (hb : Below W.heap.size W W')
   (hok : ∀ (j : Nat) (t : TypeId) (r : Value),f.resultTypes[j]? = some t → (v.resultList f.resultTypes.size)[j]? = some r → Value.okWide P W' .any 0 t r) :
   s.post enc P f apart fresh handsOn again W args v W':=by
 have hlt : ∀ p ∈ before,p.block < W.heap.size:=fun p hp => hW.lt p hp
 have hold : ∀ p ∈ before,(fun b => decide (b < W.heap.size)) p.block = true:=fun p hp => by simpa using hlt p hp
 refine ⟨ds,gs,before,[],pa,pv,hW,hres _ _ _,hargs _ hold,hvars _ hold,World.keptBut_mono (fun p hp => ⟨hp,?_⟩) (hb.frame (· ∈ before)),fun _ => ?_⟩
 · rw [hps,List.mem_append] at hp
   exact Or.inr hp
 · obtain ⟨_,_,_,_,_,hz,hn⟩:=hW
   refine ⟨hok,_,_,([] ++ pa) ++ pv,⟨[] ++ pa,pv,trodAll_append (hargs _ (fun _ _ => rfl)) (hres _ _ _),hvars _ (fun _ _ => rfl),rfl,?_,?_⟩,?_⟩
   · intro b off hp
     have hin : MemPlace.cell b off ∈ before:=by rw [hps];simpa using hp
     rw [hb.frozen (hlt _ hin)]
     exact hz b off hin
   · intro ha
     have:=hn ha
     rw [hps] at this
     simpa using this
   · intro p hp _
     rw [hps]
     simpa using hp
def firstCells : Array Value:=(Go.Pinned.utf8FirstZ.map fun (n : Nat) => Value.int .u8 n).toArray
def rangeCells : Array Value:=(([128,191,160,191,128,159,144,191,128,143] ++ List.replicate 22 0).map fun (n : Nat) => Value.int .u8 n).toArray
def layC (cs : Array Value) : Go.Obj → Go.Obj
 | .cells _ t frozen => .cells cs t frozen
 | o => o
def ordCells : Array Value:=(([16,17,18,0,8,7,9,6,10,5,11,4,12,3,13,2,14,1,15] : List Nat).map fun (n : Nat) => Value.int .i64 n).toArray
def powCells : Array Value:=(([52200625,614125,7225,85,1] : List Nat).map fun (n : Nat) => Value.int .u64 n).toArray
def repEntries : Array MapEntry:=#[⟨.int .i64 16,.agg #[.int .i64 3,.int .i64 2],0⟩,⟨.int .i64 17,.agg #[.int .i64 3,.int .i64 3],1⟩,⟨.int .i64 18,.agg #[.int .i64 11,.int .i64 7],2⟩]
noncomputable def laidWorld (os : Os) : World :=
 let w0:=World.holding Tryz.prog os ⟨#[],#[],[]⟩
 { w0 with heap:=(((((w0.heap.modify 2 (layC firstCells)).modify 3 (layC rangeCells)).modify 4 (layC ordCells)).modify 0 (layC powCells)).modify 5 (layC #[.map (some w0.heap.size)])).push (.map repEntries 3) }
end Go.Proofs.YtinafodpgjbedaaGreatDoor
