/- Parts of the proof: BoD WoC TbD TbE WoD WoB. -/
import Derived.Test.YtfgdhcemidlnfaaGreatDoorWqk
import Derived.Deep.CutRange
import Derived.Deep.RegionHeld3
import Derived.Test.YtfgdhcemidlnfaaGreatDoorWqc
import Derived.Test.YtfgdhcemidlnfaaGreatDoorWqh
import Derived.Test.YtfgdhcemidlnfaaGreatDoorWqe
import Derived.Test.YtfgdhcemidlnfaaGreatDoorWqg
import Derived.Test.YtfgdhcemidlnfaaGreatDoorWqi
set_option linter.all false
set_option maxRecDepth 100000
set_option maxHeartbeats 8000000
namespace Go.Proofs.YtfgdhcemidlnfaaGreatDoor
open Go.RowKit Fo
theorem digI_small (n : Int) (h0 : -1000000 ≤ n) (h1 : n ≤ 1000000) : (digI n).length ≤ 11:=digI_le n (by omega) (by omega)
theorem join_step {c : UInt8} {a : L} {l : List L} (hc : regular c = true) (hr : ∀ x ∈ a,regular x = true) (hne : a ≠ []) : ∃ z,regular z = true ∧ joinW c (a :: l) = 32 :: (a ++ joinW z l):=by
 cases a with
 | nil => exact absurd rfl hne
 | cons x p =>
   refine ⟨(x :: p).getLast (by simp),hr _ (List.getLast_mem _),?_⟩
   rw [joinW,hc,hr x (by simp)]
   simp
theorem join_first {a : L} {l : List L} (hr : ∀ x ∈ a,regular x = true) (hne : a ≠ []) : ∃ z,regular z = true ∧ joinW 32 (a :: l) = a ++ joinW z l:=by
 cases a with
 | nil => exact absurd rfl hne
 | cons x p =>
   refine ⟨(x :: p).getLast (by simp),hr _ (List.getLast_mem _),?_⟩
   rw [joinW,show (regular 32 || (32 : UInt8) == 47) = false by decide]
   simp
theorem head_join (num gen : Int) (o : Ob) (h1 : -1000000 ≤ num) (h2 : num ≤ 1000000) (h3 : -1000000 ≤ gen) (h4 : gen ≤ 1000000) : joinW 32 [digI num,digI gen,[111,98,106]] ++ [10] = headI ⟨num,gen,o⟩:=by
 obtain ⟨_,a2,a3⟩:=digI_ok num (by omega) (by omega)
 obtain ⟨_,b2,b3⟩:=digI_ok gen (by omega) (by omega)
 obtain ⟨z,hz,e1⟩:=join_first (l:=[digI gen,[111,98,106]]) a2 a3
 obtain ⟨z2,hz2,e2⟩:=join_step (l:=[[111,98,106]]) hz b2 b3
 obtain ⟨z3,_,e3⟩:=join_step (a:=[111,98,106]) (l:=[]) hz2 (by decide) (by decide)
 rw [e1,e2,e3]
 simp [joinW,headI,wObjL]
theorem btext_in (S : Nat → Prop) (d : Nat) (num gen k n g : Int) (s : L) (p1 p2 : Option Addr) (m1 c1 m2 c2 : Nat) (o : Ob) (w : World)
   (h1 : 1 ≤ num) (h2 : num ≤ 8191) (h3 : 0 ≤ gen) (h4 : gen ≤ 65535) (hk : k ≠ 8)
   (ho : ObjAt S d w [.int .i64 k,.int .i64 n,.int .i64 g,.string ⟨s.toArray⟩,.slice p1 m1 c1,.slice p2 m2 c2] o) (hsm : smallO d o) (hS : ∀ b,S b → b < w.heap.size) (hc : checkB 24 o = 0) (hT : TabP w) (hkk : o.kind = k) (hbk : k ≠ 9 → bulkO 24 o ≤ 2000000) (hst : k = 9 → checkB 24 (lenO o) = 0 ∧ bulkO 24 (lenO o) ≤ 2000000 ∧ o.s.length ≤ 1000000000) (hno : o.n = n) (hgo : o.g = g) (hso : o.s = s) :
   Calls Tryz.prog 81 #[.agg #[.int .i64 num,.int .i64 gen,.int .i64 k,.int .i64 n,.int .i64 g,.string ⟨s.toArray⟩,.slice p1 m1 c1,.slice p2 m2 c2]] w fun e w' => ∃ t,itemW ⟨num,gen,o⟩ = .good t ∧ e = .returned (.tuple #[.string ⟨t.toArray⟩,.int .i64 0]) ∧ Below w.heap.size w w':=by
 obtain ⟨T,hT'⟩ : ∃ T : L,textW o = T:=⟨_,rfl⟩
 have HTT:=Lh hT'
 clear hT'
 have HTl:=Lh (show k ≠ 9 → T.length ≤ 1000000000 from fun h9 => by
   have h1:=textW_le (okO_of_check hc (by rw [hkk];exact h9))
   rw [HTT.out] at h1
   have:=hbk h9
   omega)
 have hlen1 : (digI num).length ≤ 100:=Nat.le_trans (digI_small num (by omega) (by omega)) (by decide)
 have hlen2 : (digI gen).length ≤ 100:=Nat.le_trans (digI_small gen (by omega) (by omega)) (by decide)
 have hJl : ∀ a b : L,(joinW 32 [a,b,[111,98,106]]).length ≤ a.length + b.length + 10:=fun a b => by
   have h1:=joinW_le 32 [a,b,[111,98,106]]
   simp [lenK] at h1 ⊢
   omega
 have HWT:=Lh (fun (h9 : k ≠ 9) (W : World) (hW : Below w.heap.size w W) => show Calls Tryz.prog 89 #[.agg #[.int .i64 k,.int .i64 n,.int .i64 g,.string ⟨s.toArray⟩,.slice p1 m1 c1,.slice p2 m2 c2]] W (fun e w' => e = .returned (.tuple #[.string ⟨T.toArray⟩,.int .i64 0]) ∧ Below W.heap.size W w') from by
   have hw:=wText_in S d W _ o (ho.kept (fun b h => hW.block b (hS b h)) d) hsm (fun b h => Nat.lt_of_lt_of_le (hS b h) hW.size) (hT.below hW) (fun _ => hbk h9)
   have e : writeW o = .good T:=by unfold writeW;rw [if_neg (by rw [hc];simp),if_neg (by rw [hkk];exact h9),HTT.out]
   rw [e] at hw
   exact hw)
 have hSET : k = 9 → ∀ W,Below w.heap.size w W → Calls Tryz.prog 48 #[.agg #[.int .i64 7,.int .i64 0,.int .i64 0,.string ⟨#[]⟩,.slice p1 m1 c1,.slice p2 m2 c2],.string ⟨#[76,101,110,103,116,104]⟩,.agg #[.int .i64 2,.int .i64 (s.length : Nat),.int .i64 0,.string ⟨#[]⟩,.slice none 0 0,.slice none 0 0]] W (SetOut 24 W (lenO o)):=fun h9 W hW => by
   subst hkk hno hgo hso
   exact setL_in S d W o p1 p2 m1 c1 m2 c2 (ho.kept (fun b h => hW.block b (hS b h)) d) h9 hc (hst h9).1 (fun b h => Nat.lt_of_lt_of_le (hS b h) hW.size)
 have HWL:=Lh (fun (W : World) (hW : Below w.heap.size w W) (cs : List Value) (ho : ObjAt (fun b => b < W.heap.size) 24 W cs (lenO o)) => show checkB 24 (lenO o) = 0 → bulkO 24 (lenO o) ≤ 2000000 → Calls Tryz.prog 89 #[.agg cs.toArray] W (fun e w' => e = .returned (.tuple #[.string ⟨(textW (lenO o)).toArray⟩,.int .i64 0]) ∧ Below W.heap.size W w') from fun hcL hbL => by
   have hw:=wText_in (fun b => b < W.heap.size) 24 W cs (lenO o) ho (okO_small _ _ (okO_of_check hcL (by rw [lenO_kind];decide))) (fun b h => h) (hT.below hW) (fun _ => hbL)
   have e : writeW (lenO o) = .good (textW (lenO o)):=by unfold writeW;rw [if_neg (fun h => h hcL),if_neg (by rw [lenO_kind];decide)]
   rw [e] at hw
   exact hw)
 have hmf : ∀ (fn : Fn) (first cap : Array Value) (w : World),(Instr.makeFunc fn first cap).run Tryz.prog w = .ok (.func fn first cap) w:=fun _ _ _ _ => rfl
 have HCK:=Lh (fun (W : World) (hW : Below w.heap.size w W) => bcheck_in S d num gen k n g s p1 p2 m1 c1 m2 c2 o W h1 h2 h3 h4 hk (ho.kept (fun b h => hW.block b (hS b h)) d) hsm (fun b h => Nat.lt_of_lt_of_le (hS b h) hW.size) hc)
 go_enter_defers Tryz.func81,Tryz.ntmps81
 go_upto_region 2 with fail
 obtain ⟨w1,hw1⟩ : ∃ w1,(((w.alloc (.cells #[.int .i64 num,.int .i64 gen,.int .i64 k,.int .i64 n,.int .i64 g,.string ⟨s.toArray⟩,.slice p1 m1 c1,.slice p2 m2 c2] 50)).alloc (.cells #[.string ⟨#[]⟩] 9)).alloc (.cells #[.int .i64 0] 31)) = w1:=⟨_,rfl⟩
 rw [hw1]
 have A0 : w1.heap[w.heap.size]? = some (.cells #[.int .i64 num,.int .i64 gen,.int .i64 k,.int .i64 n,.int .i64 g,.string ⟨s.toArray⟩,.slice p1 m1 c1,.slice p2 m2 c2] 50 (0,0)):=by
   rw [← hw1,Below.heap_alloc _ _ _ (by simp;omega),Below.heap_alloc _ _ _ (by simp)];exact heap_new_at _ _ _ rfl
 have A1 : w1.heap[w.heap.size + 1]? = some (.cells #[.string ⟨#[]⟩] 9 (0,0)):=by
   rw [← hw1,Below.heap_alloc _ _ _ (by simp)];exact heap_new_at _ _ _ (by simp)
 have A2 : w1.heap[w.heap.size + 1 + 1]? = some (.cells #[.int .i64 0] 31 (0,0)):=by
   rw [← hw1];exact heap_new_at _ _ _ (by simp)
 have hbw : Below w.heap.size w w1:=by rw [← hw1];exact bel
 have hz1 : w1.heap.size = w.heap.size + 3:=by rw [← hw1];simp
 clear hw1
 go_cut [] from 7 to 10 (fun wc => Below w1.heap.size w1 wc)
 case first =>
   obtain ⟨k0,k1,k2,k3,k4,k5,k6,k7⟩:=eight_in (show w1.drew.heap[w.heap.size]? = _ from A0)
   have HMI:=Lh (fun W => musti_yes num gen k n g s p1 p2 m1 c1 m2 c2 W)
   have HB0:=Lh (show Below w.heap.size w w1.drew from hbw.drew)
   go_region_held3 (fun w' => w'.cell? ⟨w.heap.size,0,none⟩ = some (.int .i64 num) ∧ w'.cell? ⟨w.heap.size,1,none⟩ = some (.int .i64 gen) ∧ w'.cell? ⟨w.heap.size,2,none⟩ = some (.int .i64 k) ∧ w'.cell? ⟨w.heap.size,3,none⟩ = some (.int .i64 n) ∧ w'.cell? ⟨w.heap.size,4,none⟩ = some (.int .i64 g) ∧ w'.cell? ⟨w.heap.size,5,none⟩ = some (.string ⟨s.toArray⟩) ∧ w'.cell? ⟨w.heap.size,6,none⟩ = some (.slice p1 m1 c1) ∧ w'.cell? ⟨w.heap.size,7,none⟩ = some (.slice p2 m2 c2)) (go_keep)
     (first
       | (go_at_call 129;(with_reducible refine (HCK.out _ HB0.out).mono ?_);rintro e w2 ⟨rfl,hb⟩;have HB5:=Lh ((show Below w1.heap.size w1 w1.drew from (Below.refl _ _).drew).trans hb);obtain ⟨k0,k1,k2,k3,k4,k5,k6,k7⟩:=eight_in ((HB5.out.block _ (by omega)).trans A0);clear hb)
       | (go_at_call 128;(with_reducible refine (HMI.out _).mono ?_);rintro e w3 ⟨⟨v,rfl⟩,hb⟩;have HB6:=Lh (HB5.out.trans (hb.mono HB5.out.size));obtain ⟨k0,k1,k2,k3,k4,k5,k6,k7⟩:=eight_in ((HB6.out.block _ (by omega)).trans A0);clear hb))
   all_goals go_wp2_with fail
   all_goals go_meet
   all_goals exact HB6.out
 case rest =>
   obtain ⟨w2,rfl⟩ : ∃ w2,w2 = wc:=⟨_,rfl⟩
   have hbw2:=hbw.trans (hcut.mono hbw.size)
   have B0:=(hcut.block _ (by omega)).trans A0
   have B1:=(hcut.block _ (by omega)).trans A1
   have B2:=(hcut.block _ (by omega)).trans A2
   have hz2:=hcut.size
   clear A0 A1 A2 hbw hcut HCK
   obtain ⟨Bd,hBd⟩ : ∃ Bd,w2.heap.size = Bd:=⟨_,rfl⟩
   go_wp2_with fail
   obtain ⟨w3,hw3⟩ : ∃ w3,w2.alloc (.cells #[.pointer none,.slice none 0 0] 100) = w3:=⟨_,rfl⟩
   rw [hw3]
   have bl3:=bldB_fresh w2
   rw [hw3,hBd] at bl3
   have hb3 : Below w2.heap.size w2 w3:=by rw [← hw3];exact bel
   have hz3 : w3.heap.size = Bd + 1:=by rw [← hw3];simp [hBd]
   have C0:=(hb3.block _ (by omega)).trans B0
   have C1:=(hb3.block _ (by omega)).trans B1
   have C2:=(hb3.block _ (by omega)).trans B2
   have hbw3:=hbw2.trans (hb3.mono hbw2.size)
   rw [hBd] at hz2
   clear B0 B1 B2 hbw2 hw3 hb3 hBd
   obtain ⟨D1,hD1⟩ : ∃ D,digI num = D:=⟨_,rfl⟩
   obtain ⟨D2,hD2⟩ : ∃ D,digI gen = D:=⟨_,rfl⟩
   have hl1:=hlen1
   have hl2:=hlen2
   rw [hD1] at hl1
   rw [hD2] at hl2
   have HP1:=Lh (fun W (hT : TabP W) => show Calls Tryz.prog 91 #[.int .i64 num] W (fun e w' => e = .returned (.tuple #[.string ⟨D1.toArray⟩,.int .i64 0]) ∧ Below W.heap.size W w') from by
     have:=pInt_in num (by omega) (by omega) W hT
     unfold intV at this
     rw [if_neg (by omega),hD1] at this
     exact this)
   have HP2:=Lh (fun W (hT : TabP W) => show Calls Tryz.prog 91 #[.int .i64 gen] W (fun e w' => e = .returned (.tuple #[.string ⟨D2.toArray⟩,.int .i64 0]) ∧ Below W.heap.size W w') from by
     have:=pInt_in gen (by omega) (by omega) W hT
     unfold intV at this
     rw [if_neg (by omega),hD2] at this
     exact this)
   have HM1:=Lh (fun W => musts_yes D1 W)
   have HM2:=Lh (fun W => musts_yes D2 W)
   obtain ⟨J,hJ⟩ : ∃ J,joinW 32 [D1,D2,[111,98,106]] = J:=⟨_,rfl⟩
   have HHD:=Lh (show J ++ [10] = headI ⟨num,gen,o⟩ by rw [← hJ,← hD1,← hD2];exact head_join num gen o (by omega) (by omega) (by omega) (by omega))
   have HITS:=Lh (show k = 9 → itemW ⟨num,gen,o⟩ = .good (J ++ 10 :: (textW (lenO o) ++ 10 :: (wStream ++ (s ++ (wEndstream ++ wEndobj))))) from fun h9 => by
     have e1 : J ++ 10 :: (textW (lenO o) ++ 10 :: (wStream ++ (s ++ (wEndstream ++ wEndobj)))) = headI ⟨num,gen,o⟩ ++ (textW (lenO o) ++ 10 :: (wStream ++ (o.s ++ (wEndstream ++ wEndobj)))):=by rw [← HHD.out,hso];simp
     rw [e1]
     have hnb : numsB ⟨num,gen,o⟩ = true:=by unfold numsB;simp only [Bool.and_eq_true,decide_eq_true_eq];exact ⟨⟨⟨h1,h2⟩,h3⟩,h4⟩
     unfold itemW
     rw [hnb]
     dsimp only
     rw [if_neg (by decide),if_neg (fun h => h hc),if_neg (by rw [hkk];exact hk),if_pos (by rw [hkk];exact h9)]
     unfold setO
     rw [if_neg (by simp [dictB,Ob.kind]),if_neg (fun h => h (dict_chk hc (by rw [hkk];exact h9))),if_neg (fun h => h (hst h9).1)]
     rfl)
   have HIT:=Lh (show k ≠ 9 → itemW ⟨num,gen,o⟩ = .good (J ++ 10 :: (T ++ [10,101,110,100,111,98,106,10])) from fun h9 => by
     have e1 : J ++ 10 :: (T ++ [10,101,110,100,111,98,106,10]) = headI ⟨num,gen,o⟩ ++ (textW o ++ 10 :: wEndobj):=by rw [← HHD.out,HTT.out];simp [wEndobj]
     rw [e1]
     have hnb : numsB ⟨num,gen,o⟩ = true:=by unfold numsB;simp only [Bool.and_eq_true,decide_eq_true_eq];exact ⟨⟨⟨h1,h2⟩,h3⟩,h4⟩
     unfold itemW
     rw [hnb]
     dsimp only
     rw [if_neg (by decide),if_neg (fun h => h hc),if_neg (by rw [hkk];exact hk),if_neg (by rw [hkk];exact h9)])
   have HJn:=Lh (fun W (g : Nat) (hg : W.heap[g]? = some (.cells #[.string ⟨D1.toArray⟩,.string ⟨D2.toArray⟩,.string ⟨#[111,98,106]⟩] 9 (0,0))) => show Calls Tryz.prog 130 #[.slice (some ⟨g,0,none⟩) 3 3] W (fun e w' => e = .returned (.string ⟨J.toArray⟩) ∧ Below W.heap.size W w') from by
     have:=join_in (fun b => b < W.heap.size) (.slice (some ⟨g,0,none⟩) 3 3) [D1,D2,[111,98,106]] W (.inr ⟨g,0,3,rfl,lt_of_block hg,fun i hi => by
       simp only [World.cell?,hg]
       match i,hi with
       | 0,_ => rfl
       | 1,_ => rfl
       | 2,_ => rfl⟩) (fun b h => h) (by simp) (by rw [hJ];have:=hJl D1 D2;rw [hJ] at this;omega) (fun x hx => by simp at hx;rcases hx with rfl | rfl | rfl <;> first | omega | (simp))
     rw [hJ] at this
     exact this)
   have hTW:=hT.below hbw3
   have hJL : J.length ≤ 210:=by have:=hJl D1 D2;rw [hJ] at this;omega
   go_cut [] from 11 to 26 (fun wc => bldB wc Bd (J ++ [10]) ∧ Below Bd w3 wc)
   case first =>
     have hJL : J.length ≤ 210:=by have:=hJl D1 D2;rw [hJ] at this;omega
     have HB5:=Lh (show Below w3.heap.size w3 w3.drew from (Below.refl _ _).drew)
     obtain ⟨k0,k1,_,_,_,_,_,_⟩:=eight_in (show w3.drew.heap[w.heap.size]? = _ from C0)
     have hJ1 : ¬ 9223372036854775807 < J.length + 1:=by omega
     clear hD1 hD2 hJ hl1 hl2
     go_region_held3 (fun w' => w'.cell? ⟨w.heap.size,0,none⟩ = some (.int .i64 num) ∧ w'.cell? ⟨w.heap.size,1,none⟩ = some (.int .i64 gen)) (go_keep)
       (first
         | (go_at_call 91;(first | (with_reducible refine (HP1.out _ (hTW.below HB5.out)).mono ?_) | (with_reducible refine (HP2.out _ (hTW.below HB5.out)).mono ?_));rintro e w4 ⟨rfl,hb⟩;replace HB5:=Lh (HB5.out.trans (hb.mono HB5.out.size));obtain ⟨k0,k1,_,_,_,_,_,_⟩:=eight_in ((HB5.out.block _ (by omega)).trans C0);clear hb)
         | (go_at_call 131;first | ((with_reducible refine (HM1.out _).mono ?_);rintro e w5 ⟨rfl,h5⟩;obtain rfl:=h5.symm) | ((with_reducible refine (HM2.out _).mono ?_);rintro e w5 ⟨rfl,h5⟩;obtain rfl:=h5.symm))
         | (go_at_call 130;(refine (HJn.out _ _ (heap_new_at _ _ _ rfl)).mono ?_);rintro e w6 ⟨rfl,hb⟩;replace HB5:=Lh ((show Below w3.heap.size w3 _ from HB5.out.alloc HB5.out.size _).trans (hb.mono (by have:=HB5.out.size;simp;omega)));obtain ⟨k0,k1,_,_,_,_,_,_⟩:=eight_in ((HB5.out.block _ (by omega)).trans C0);clear hb)
         | (go_at_call 52;(refine (bld_str Bd [] _ _ (bldB_below bl3 HB5.out) (by simp [ByteArray.size];omega) (by have:=HB5.out.size;omega)).mono ?_);rintro e w7 ⟨rfl,hbl,hb⟩;have HBL:=Lh hbl;have HBZ:=Lh ((HB5.out.mono (by omega)).trans hb);obtain ⟨k0,k1,_,_,_,_,_,_⟩:=eight_in ((HBZ.out.block _ (by omega)).trans C0);clear hbl hb))
     all_goals go_wp2_with fail
     all_goals go_meet
     all_goals exact ⟨by simpa using HBL.out,HBZ.out⟩
   case rest =>
     obtain ⟨w4,rfl⟩ : ∃ w4,w4 = wc:=⟨_,rfl⟩
     obtain ⟨bl4,hb4⟩:=hcut
     have D0:=(hb4.block _ (by omega)).trans C0
     have E1:=(hb4.block _ (by omega)).trans C1
     have E2:=(hb4.block _ (by omega)).trans C2
     have hbw4:=hbw3.trans (hb4.mono (by omega))
     have hz4:=hb4.size
     clear C0 C1 C2 hbw3 hb4 HP1 HP2 HM1 HM2 HJn bl3
     obtain ⟨k0,k1,k2,k3,k4,k5,k6,k7⟩:=eight_in D0
     by_cases h9 : k = 9
     · subst h9
       have HSL:=Lh (hSET rfl)
       have hsl : s.length ≤ 1000000000:=by rw [← hso];exact (hst rfl).2.2
       have HST:=Lh (hst rfl)
       have HITS2:=Lh (HITS.out rfl)
       clear hSET hst HITS
       go_wp2_with fail
       obtain ⟨w5,hw5⟩ : ∃ w5,w4.alloc (.cells #[.int .i64 9,.int .i64 n,.int .i64 g,.string ⟨s.toArray⟩,.slice p1 m1 c1,.slice p2 m2 c2] 26) = w5:=⟨_,rfl⟩
       rw [hw5]
       have hb5 : Below w4.heap.size w4 w5:=by rw [← hw5];exact bel
       have O5 : w5.heap[w4.heap.size]? = some (.cells #[.int .i64 9,.int .i64 n,.int .i64 g,.string ⟨s.toArray⟩,.slice p1 m1 c1,.slice p2 m2 c2] 26 (0,0)):=by rw [← hw5];exact heap_new_at _ _ _ rfl
       have hz5 : w5.heap.size = w4.heap.size + 1:=by rw [← hw5];simp
       clear hw5 k0 k1 k2 k3 k4 k5 k6 k7
       obtain ⟨P,hP⟩ : ∃ P,lenO o = P:=⟨_,rfl⟩
       rw [hP] at HSL
       have HP:=Lh hP
       clear hP
       have hbw5':=hbw4.trans (hb5.mono hbw4.size)
       go_cut [] from 32 to 44 (fun wc => ∃ r1 f1 r2 f2,wc.heap[w4.heap.size]? = some (.cells #[.int .i64 P.kind,.int .i64 P.n,.int .i64 P.g,.string ⟨P.s.toArray⟩,.slice r1 P.keys.length f1,.slice r2 P.kids.length f2] 26 (0,0)) ∧
         ObjAt (fun b => b < wc.heap.size) 24 wc (objCells P.kind P.n P.g P.s (.slice r1 P.keys.length f1) (.slice r2 P.kids.length f2)) P ∧ Below w4.heap.size w4 wc)
       case first =>
         obtain ⟨k0,k1,k2,k3,k4,k5,kf⟩:=six_of (show w5.drew.heap[w4.heap.size]? = _ from O5)
         have HB5:=Lh (show Below w5.heap.size w5 w5.drew from (Below.refl _ _).drew)
         refine wp_region_noPanic ?_
         go_region_law (first
           | (go_simp;go_at_call 49;refine (vint_in _ _).mono ?_;rintro e w6 ⟨rfl,hb⟩;replace HB5:=Lh (HB5.out.trans (hb.mono HB5.out.size));obtain ⟨k0,k1,k2,k3,k4,k5,kf⟩:=six_of ((HB5.out.block _ (by omega)).trans O5);clear hb)
           | (go_simp;go_at_call 48;refine (HSL.out _ (hbw5'.trans (HB5.out.mono hbw5'.size))).mono ?_;rintro e w7 ⟨r1,f1,r2,f2,rfl,hO7,hb⟩;have HO7:=Lh (hO7.weaken (S':=fun b => w4.heap.size < b) (fun b h _ => by have:=HB5.out.size;omega) _);replace HB5:=Lh (HB5.out.trans (hb.mono HB5.out.size));obtain ⟨k0,k1,k2,k3,k4,k5,kf⟩:=six_of ((HB5.out.block _ (by omega)).trans O5);clear hb hO7)
           | (go_simp;go_at_call 132;refine (musto_yes _ _ _ _ _ _ _ _ _ _ _).mono ?_;rintro e w8 ⟨rfl,hb⟩;have HO8:=Lh (HO7.out.grow (S':=fun b => w4.heap.size < b ∧ b < w8.heap.size) (w':=w8) (fun b h1 h2 => ⟨⟨h1,Nat.lt_of_lt_of_le h2 hb.size⟩,hb.block b h2⟩));replace HB5:=Lh (HB5.out.trans (hb.mono HB5.out.size));have Z8:=Lh ((HB5.out.block _ (by omega)).trans O5);obtain ⟨k0,k1,k2,k3,k4,k5,kf⟩:=six_of ((HB5.out.block _ (by omega)).trans O5);clear hb))
         all_goals refine NoPanic.normal ?_
         all_goals go_wp2_with fail
         all_goals go_meet
         all_goals exact ⟨r1,f1,r2,f2,set_six Z8.out,HO8.out.grow (fun b h1 h2 => ⟨by simpa using h1.2,(set6_grown _ _ 0 1 2 3 4 5 _ _ _ _ _ _).block b h2 (by simp;omega)⟩),((hb5.trans (HB5.out.mono (by omega))).grown (set6_grown _ _ 0 1 2 3 4 5 _ _ _ _ _ _) (by have:=HB5.out.size;omega) (fun k h => by cases h;omega))⟩
       case rest =>
         obtain ⟨wd,rfl⟩ : ∃ wd,wd = wc:=⟨_,rfl⟩
         obtain ⟨r1,f1,r2,f2,OO,hO,hb6⟩:=hcut
         have hbw5:=hbw4
         have bl5:=bl4
         have D0:=(hb6.block _ (by omega)).trans D0
         have E1:=(hb6.block _ (by omega)).trans E1
         have E2:=(hb6.block _ (by omega)).trans E2
         have hbw6:=hbw5.trans (hb6.mono (by omega))
         have hz6:=hb6.size
         have bl6:=bldB_below bl5 hb6
         clear hb6 bl5 hbw5
         have HW6:=HWL.out wd hbw6 _ (by rw [HP.out];exact hO) HST.out.1 HST.out.2.1
         obtain ⟨T2,hT2⟩ : ∃ T2,textW (lenO o) = T2:=⟨_,rfl⟩
         have hT2l : (textW (lenO o)).length ≤ 1000000000:=by
           have h1:=textW_le (okO_of_check HST.out.1 (by rw [lenO_kind];decide))
           have:=HST.out.2.1
           omega
         rw [hT2] at HW6 hT2l
         have HIT2:=HITS2.out
         rw [hT2] at HIT2
         have HI2:=Lh HIT2
         clear hT2 HIT2 HITS2 HSL HST
         unfold objCells at HW6
         have y1 : T2.length + 1 ≤ 9223372036854775807:=by omega
         have y2 : s.length + 7 ≤ 9223372036854775807:=by omega
         have y3 : 7 + s.length ≤ 9223372036854775807:=by omega
         have y4 : 7 + s.length + 11 ≤ 9223372036854775807:=by omega
         obtain ⟨k0,k1,k2,k3,k4,k5,kf⟩:=six_of OO
         go_wp2_with fail
         refine HW6.mono ?_
         rintro e w7 ⟨rfl,hb7⟩
         clear k0 k1 k2 k3 k4 k5 kf OO HW6
         have D0:=(hb7.block _ (by omega)).trans D0
         have E1:=(hb7.block _ (by omega)).trans E1
         have E2:=(hb7.block _ (by omega)).trans E2
         have hbw7:=hbw6.trans (hb7.mono (by omega))
         have hz7:=hb7.size
         have bl7:=bldB_below bl6 hb7
         clear hb7 bl6 hbw6
         go_wp2_with fail
         refine (musts_yes T2 _).mono ?_
         rintro e w8 ⟨rfl,hw8⟩
         obtain rfl:=hw8.symm
         go_wp2_with fail
         refine (bld_str Bd (J ++ [10]) _ _ bl7 ?hl (by omega)).mono ?_
         case hl =>
           simp only [List.length_append,ByteArray.size_append]
           show J.length + 1 + (T2.length + 1) ≤ _
           omega
         rintro e w8 ⟨rfl,bl8,hb8⟩
         have D0:=(hb8.block _ (by omega)).trans D0
         have E1:=(hb8.block _ (by omega)).trans E1
         have E2:=(hb8.block _ (by omega)).trans E2
         have hbw8:=hbw7.trans (hb8.mono (by omega))
         have hz8:=hb8.size
         clear hb8 hbw7
         obtain ⟨k0,k1,k2,k3,k4,k5,k6,k7⟩:=eight_in D0
         go_wp2_with fail
         refine (bld_str Bd _ _ _ bl8 ?hl2 (by omega)).mono ?_
         case hl2 =>
           simp only [List.length_append,ByteArray.size_append,ByteArray.data_append,Array.toList_append]
           show J.length + 1 + (T2.length + 1) + (7 + s.length + 11) ≤ _
           omega
         rintro e w9 ⟨rfl,bl9,hb9⟩
         clear k0 k1 k2 k3 k4 k5 k6 k7
         have D0:=(hb9.block _ (by omega)).trans D0
         have E1:=(hb9.block _ (by omega)).trans E1
         have E2:=(hb9.block _ (by omega)).trans E2
         have hbw9:=hbw8.trans (hb9.mono (by omega))
         have hz9:=hb9.size
         clear hb9 hbw8
         go_wp2_with fail
         refine (bld_str Bd _ _ _ bl9 ?hl3 (by omega)).mono ?_
         case hl3 =>
           simp only [List.length_append,ByteArray.size_append,ByteArray.data_append,Array.toList_append]
           show J.length + 1 + (T2.length + 1) + (7 + s.length + 11) + 7 ≤ _
           omega
         rintro e wa ⟨rfl,bla,hba⟩
         have D0:=(hba.block _ (by omega)).trans D0
         have E1:=(hba.block _ (by omega)).trans E1
         have E2:=(hba.block _ (by omega)).trans E2
         have hbwa:=hbw9.trans (hba.mono (by omega))
         have hza:=hba.size
         clear hba hbw9
         go_wp2_with fail
         refine (bld_get Bd _ _ bla (by omega)).mono ?_
         rintro e wb ⟨rfl,hbb⟩
         have D0:=(hbb.block _ (by omega)).trans D0
         have E1:=(hbb.block _ (by omega)).trans E1
         have E2:=(hbb.block _ (by omega)).trans E2
         have hbwb:=hbwa.trans (hbb.mono (by omega))
         have hzb:=hbb.size
         clear hbb hbwa
         have e0 : wb.cell? ⟨w.heap.size + 1,0,none⟩ = some (.string ⟨#[]⟩):=by simp [World.cell?,E1]
         have ef : wb.frozen? ⟨w.heap.size + 1,0,none⟩ = false:=by simp [World.frozen?,E1]
         have g0 : wb.cell? ⟨w.heap.size + 1 + 1,0,none⟩ = some (.int .i64 0):=by simp [World.cell?,E2]
         have gf : wb.frozen? ⟨w.heap.size + 1 + 1,0,none⟩ = false:=by simp [World.frozen?,E2]
         go_wp2
         have f1 : ((wb.setCell ⟨w.heap.size + 1,0,none⟩ (.string ⟨(J ++ 10 :: (T2 ++ 10 :: 115 :: 116 :: 114 :: 101 :: 97 :: 109 :: 10 :: (s ++ [10,101,110,100,115,116,114,101,97,109,10,101,110,100,111,98,106,10]))).toArray⟩)).setCell ⟨w.heap.size + 1 + 1,0,none⟩ (.int .i64 0)).cell? ⟨w.heap.size + 1,0,none⟩ = some (.string ⟨(J ++ 10 :: (T2 ++ 10 :: 115 :: 116 :: 114 :: 101 :: 97 :: 109 :: 10 :: (s ++ [10,101,110,100,115,116,114,101,97,109,10,101,110,100,111,98,106,10]))).toArray⟩):=by
           exact (World.cell?_of_block (a:=⟨w.heap.size + 1,0,none⟩) (Below.heap_setCell _ _ _ _ (by show w.heap.size + 1 ≠ w.heap.size + 1 + 1;omega))).trans (World.cell?_setCell_same _ _ _ e0)
         have f2 : ((wb.setCell ⟨w.heap.size + 1,0,none⟩ (.string ⟨(J ++ 10 :: (T2 ++ 10 :: 115 :: 116 :: 114 :: 101 :: 97 :: 109 :: 10 :: (s ++ [10,101,110,100,115,116,114,101,97,109,10,101,110,100,111,98,106,10]))).toArray⟩)).setCell ⟨w.heap.size + 1 + 1,0,none⟩ (.int .i64 0)).cell? ⟨w.heap.size + 1 + 1,0,none⟩ = some (.int .i64 0):=by
           exact World.cell?_setCell_same _ _ _ ((World.cell?_of_block (a:=⟨w.heap.size + 1 + 1,0,none⟩) (Below.heap_setCell _ _ _ _ (by show w.heap.size + 1 + 1 ≠ w.heap.size + 1;omega))).trans g0)
         refine leaves_cons (f:=126) (args:=#[.pointer (some ⟨w.heap.size + 1 + 1,0,none⟩),.pointer (some ⟨w.heap.size + 1,0,none⟩)]) (by simp) (by simp [go_sem]) ?_
         refine (btext1_idle _ _ _ f2).mono ?_
         rintro e u' w'' ⟨rfl,rfl,rfl⟩
         simp [Leaves,settle,results,Tryz.results81,go_sem,f1,f2]
         exact ⟨_,HI2.out,rfl,(hbwb.setCell (by show w.heap.size ≤ w.heap.size + 1;omega) _).setCell (by show w.heap.size ≤ w.heap.size + 1 + 1;omega) _⟩
     · have d9 : (k == 9) = false:=by simpa using h9
       have hTl:=HTl.out h9
       have y1 : T.length + 1 ≤ 9223372036854775807:=by omega
       go_wp2_with fail
       obtain ⟨w5,hw5⟩ : ∃ w5,w4.alloc (.cells #[.int .i64 k,.int .i64 n,.int .i64 g,.string ⟨s.toArray⟩,.slice p1 m1 c1,.slice p2 m2 c2] 26) = w5:=⟨_,rfl⟩
       rw [hw5]
       have hb5 : Below w4.heap.size w4 w5:=by rw [← hw5];exact bel
       have D0:=(hb5.block _ (by omega)).trans D0
       have E1:=(hb5.block _ (by omega)).trans E1
       have E2:=(hb5.block _ (by omega)).trans E2
       have hbw5:=hbw4.trans (hb5.mono (by omega))
       have hz5:=hb5.size
       have bl5:=bldB_below bl4 hb5
       clear hb5 bl4 hbw4
       clear hw5 k0 k1 k2 k3 k4 k5 k6 k7
       refine (HWT.out h9 w5 hbw5).mono ?_
       rintro e w6 ⟨rfl,hb6⟩
       have D0:=(hb6.block _ (by omega)).trans D0
       have E1:=(hb6.block _ (by omega)).trans E1
       have E2:=(hb6.block _ (by omega)).trans E2
       have hbw6:=hbw5.trans (hb6.mono (by omega))
       have hz6:=hb6.size
       have bl6:=bldB_below bl5 hb6
       clear hb6 bl5 hbw5
       go_wp2_with fail
       refine (musts_yes T _).mono ?_
       rintro e w7 ⟨rfl,hw7⟩
       obtain rfl:=hw7.symm
       go_wp2_with fail
       refine (bld_str Bd (J ++ [10]) _ _ bl6 ?hl (by omega)).mono ?_
       case hl =>
         simp only [List.length_append,ByteArray.size_append]
         show J.length + 1 + (T.length + 1) ≤ _
         omega
       rintro e w7 ⟨rfl,bl7,hb7⟩
       have D0:=(hb7.block _ (by omega)).trans D0
       have E1:=(hb7.block _ (by omega)).trans E1
       have E2:=(hb7.block _ (by omega)).trans E2
       have hbw7:=hbw6.trans (hb7.mono (by omega))
       have hz7:=hb7.size
       clear hb7 hbw6
       obtain ⟨k0,k1,k2,k3,k4,k5,k6,k7⟩:=eight_in D0
       go_wp2_with fail
       refine (bld_str Bd _ _ _ bl7 ?hl (by omega)).mono ?_
       case hl =>
         simp only [List.length_append,ByteArray.size_append,ByteArray.data_append,Array.toList_append]
         show J.length + 1 + (T.length + 1) + 7 ≤ _
         omega
       rintro e w8 ⟨rfl,bl8,hb8⟩
       clear k0 k1 k2 k3 k4 k5 k6 k7
       have D0:=(hb8.block _ (by omega)).trans D0
       have E1:=(hb8.block _ (by omega)).trans E1
       have E2:=(hb8.block _ (by omega)).trans E2
       have hbw8:=hbw7.trans (hb8.mono (by omega))
       have hz8:=hb8.size
       clear hb8 hbw7
       go_wp2_with fail
       refine (bld_get Bd _ _ bl8 (by omega)).mono ?_
       rintro e w9 ⟨rfl,hb9⟩
       have D0:=(hb9.block _ (by omega)).trans D0
       have E1:=(hb9.block _ (by omega)).trans E1
       have E2:=(hb9.block _ (by omega)).trans E2
       have hbw9:=hbw8.trans (hb9.mono (by omega))
       have hz9:=hb9.size
       clear hb9 hbw8
       have e0 : w9.cell? ⟨w.heap.size + 1,0,none⟩ = some (.string ⟨#[]⟩):=by simp [World.cell?,E1]
       have ef : w9.frozen? ⟨w.heap.size + 1,0,none⟩ = false:=by simp [World.frozen?,E1]
       have g0 : w9.cell? ⟨w.heap.size + 1 + 1,0,none⟩ = some (.int .i64 0):=by simp [World.cell?,E2]
       have gf : w9.frozen? ⟨w.heap.size + 1 + 1,0,none⟩ = false:=by simp [World.frozen?,E2]
       go_wp2
       have f1 : ((w9.setCell ⟨w.heap.size + 1,0,none⟩ (.string ⟨(J ++ 10 :: (T ++ [10,101,110,100,111,98,106,10])).toArray⟩)).setCell ⟨w.heap.size + 1 + 1,0,none⟩ (.int .i64 0)).cell? ⟨w.heap.size + 1,0,none⟩ = some (.string ⟨(J ++ 10 :: (T ++ [10,101,110,100,111,98,106,10])).toArray⟩):=by
         exact (World.cell?_of_block (a:=⟨w.heap.size + 1,0,none⟩) (Below.heap_setCell _ _ _ _ (by show w.heap.size + 1 ≠ w.heap.size + 1 + 1;omega))).trans (World.cell?_setCell_same _ _ _ e0)
       have f2 : ((w9.setCell ⟨w.heap.size + 1,0,none⟩ (.string ⟨(J ++ 10 :: (T ++ [10,101,110,100,111,98,106,10])).toArray⟩)).setCell ⟨w.heap.size + 1 + 1,0,none⟩ (.int .i64 0)).cell? ⟨w.heap.size + 1 + 1,0,none⟩ = some (.int .i64 0):=by
         exact World.cell?_setCell_same _ _ _ ((World.cell?_of_block (a:=⟨w.heap.size + 1 + 1,0,none⟩) (Below.heap_setCell _ _ _ _ (by show w.heap.size + 1 + 1 ≠ w.heap.size + 1;omega))).trans g0)
       refine leaves_cons (f:=126) (args:=#[.pointer (some ⟨w.heap.size + 1 + 1,0,none⟩),.pointer (some ⟨w.heap.size + 1,0,none⟩)]) (by simp) (by simp [go_sem]) ?_
       refine (btext1_idle _ _ _ f2).mono ?_
       rintro e u' w'' ⟨rfl,rfl,rfl⟩
       simp [Leaves,settle,results,Tryz.results81,go_sem,f1,f2]
       exact ⟨_,HIT.out h9,rfl,(hbw9.setCell (by show w.heap.size ≤ w.heap.size + 1;omega) _).setCell (by show w.heap.size ≤ w.heap.size + 1 + 1;omega) _⟩
open Go.RowKit Fo Go.Maps
theorem fileB_other {w w' : World} {B fb mb : Nat} {l : L} (h : fileB w B fb mb l) (hm : mb < B) (ho : w'.os = w.os) (ht : w'.tape = w.tape) (hp : w'.output = w.output) (hz : w.heap.size ≤ w'.heap.size) (hk : ∀ k,k < w.heap.size → k ≠ mb → w'.heap[k]? = w.heap[k]?) : fileB w' B fb mb l:=by
 have hlt:=fileB_lt h
 obtain ⟨h0,p,v,h1,h2,h3,h4⟩:=h
 refine ⟨h0,p,v,h1,(hk fb hlt (by omega)).trans h2,?_,h4⟩
 exact h3.kept (row:=some mb) ⟨ho,ht,hp,hz,fun k hk' hne => hk k hk' (fun e => hne (by rw [e]))⟩ (Or.inr (fun e => by have:=(h3.lt mb e).1;omega))
theorem fileB_map {w : World} {B fb mb : Nat} {l : L} (h : fileB w B fb mb l) : w.cell? ⟨fb,2,none⟩ = some (.map (some mb)):=by
 obtain ⟨_,p,v,_,h2,_⟩:=h
 simp [World.cell?,h2]
theorem wf_num {c : Int} (h0 : 0 ≤ c) (h1 : c ≤ 1000000) : (Lit.int .i64 c).wf = true:=by simp [Lit.wf,IntKind.min,IntKind.max,IntKind.bits,IntKind.signed];omega
theorem begin_in (S : Nat → Prop) (d : Nat) (k1 n1 g1 : Int) (q1 : ByteArray) (a1 a2 a3 : Option Addr) (b1 c1 b2 c2 b3 c3 : Nat) (l : List It) (r : L) (ps : List Sl) (w : World) (hT : TabP w)
   (hI : ItemsAt S d w (.slice a1 b1 c1) l) (hl : l.length ≤ 1000000) (hsm : ∀ i ∈ l,smallO d i.ob) (hS : ∀ b,S b → b < w.heap.size) (hf : ∀ i ∈ l,Fit i) (hup : ItemsOk none l)
   (hp : partsW headW l = .good (r,ps)) (hr : r.length ≤ 140737488355328) :
   Calls Tryz.prog 46 #[.agg #[.slice a1 b1 c1,.int .i64 k1,.int .i64 n1,.int .i64 g1,.string q1,.slice a2 b2 c2,.slice a3 b3 c3]] w fun e w' =>
     e = .returned (.tuple #[.pointer (some ⟨w.heap.size + 2,0,none⟩),.int .i64 0]) ∧ fileB w' (w.heap.size + 2) (w.heap.size + 2) (w.heap.size + 1) r ∧ MpS w' (w.heap.size + 1) l.length ps ∧ Below w.heap.size w w':=by
 have HHD:=Lh (fun W hW => head_in W hW)
 have HTW:=Lh hT
 have HPU:=Lh (parts_up hp hup)
 obtain ⟨n,hn⟩ : ∃ n,l.length = n:=⟨_,rfl⟩
 obtain ⟨p,cp,hv⟩:=hI.slice
 obtain ⟨rfl,rfl,rfl⟩ : a1 = p ∧ b1 = n ∧ c1 = cp:=by rw [hn] at hv;cases hv;exact ⟨rfl,rfl,rfl⟩
 have HV:=Lh hI
 have HN:=Lh hn
 have HS:=Lh (And.intro hS (And.intro hsm hf))
 have HP0:=Lh hp
 have HR:=Lh hr
 have hn1 : b1 ≤ 1000000:=by omega
 rw [hn]
 clear hT hI hl hsm hS hf hup hp hr hn hv
 have hmk : ∀ w,(Instr.makeMap 101 none).run Tryz.prog w = .ok (.map (some w.heap.size)) (w.alloc (.map #[] 0)):=fun _ => by kernel_rfl
 go_enter Tryz.func46,Tryz.ntmps46
 go_wp2_with fail
 obtain ⟨w0, hw0⟩ : ∃ w0, ((w.alloc (.cells #[.slice a1 b1 c1, .int .i64 k1, .int .i64 n1, .int .i64 g1, .string q1, .slice a2 b2 c2, .slice a3 b3 c3] 28)).alloc (.map #[] 0)).alloc
     (.cells #[.pointer none,.slice none 0 0,.map (some (w.heap.size + 1))] 103) = w0:=⟨_,rfl⟩
 have hz0 : w0.heap.size = w.heap.size + 3:=by rw [← hw0];simp
 have HD0 : w0.heap[w.heap.size]? = some (.cells #[.slice a1 b1 c1,.int .i64 k1,.int .i64 n1,.int .i64 g1,.string q1,.slice a2 b2 c2,.slice a3 b3 c3] 28 (0,0)):=by
   rw [← hw0]
   exact (Below.heap_alloc _ _ _ (by simp;omega)).trans ((Below.heap_alloc _ _ _ (by simp)).trans (heap_new_at w _ _ rfl))
 have HM0 : MpS w0 (w.heap.size + 1) 0 []:=by
   have h:=MpS.made (w.alloc (.cells #[.slice a1 b1 c1,.int .i64 k1,.int .i64 n1,.int .i64 g1,.string q1,.slice a2 b2 c2,.slice a3 b3 c3] 28))
   rw [World.size_alloc] at h
   rw [← hw0]
   exact h.kept (Below.heap_alloc _ _ _ (by simp))
 have HF0 : fileB w0 (w.heap.size + 2) (w.heap.size + 2) (w.heap.size + 1) []:=by
   refine ⟨Nat.le_refl _,_,_,.inl rfl,?_,World.ownsRowF_nil _ _ _ _,by simp [Value.ownBlock]⟩
   rw [← hw0]
   exact heap_new_at _ _ _ (by simp)
 have hb0 : Below w.heap.size w w0:=by rw [← hw0];exact bel
 rw [hw0]
 clear hw0
 refine (HHD.out _ (HTW.out.below hb0)).mono ?_
 rintro e w1 ⟨rfl,hb1⟩
 go_wp2_with fail
 refine (fstr_in (w.heap.size + 2) (w.heap.size + 2) (w.heap.size + 1) [] _ w1 (fileB_below HF0 hb1) (by decide) (by have:=hb1.size;omega)).mono ?_
 rintro e w2 ⟨rfl,hf2,hb2,hk2⟩
 have HM2 : MpS w2 (w.heap.size + 1) 0 []:=(HM0.below hb1).kept (hb2.block _ (by omega))
 have hbw2 : Below w.heap.size w w2:=(hb0.trans (hb1.mono (by omega))).trans (hb2.mono (by omega))
 have hf2' : fileB w2 (w.heap.size + 2) (w.heap.size + 2) (w.heap.size + 1) headW:=hf2
 have hd2:=(hb2.block w.heap.size (by omega)).trans ((hb1.block _ (by omega)).trans HD0)
 have s0 : w2.cell? ⟨w.heap.size,0,none⟩ = some (.slice a1 b1 c1):=by simp [World.cell?,hd2]
 clear HM0 HF0 hb0 hb1 hb2 hk2 hf2 hd2 HD0
 go_wp2
 clear s0
 go_loopw [29] (fun i wr => ∃ (k : Nat) (acc : L) (ps1 ps2 : List Sl),k ≤ b1 ∧ i = .int .i64 k ∧ Below w.heap.size w wr ∧ w.heap.size + 3 ≤ wr.heap.size ∧ Hid (partsW acc (l.drop k) = .good (r,ps2)) ∧ Hid (ps1 ++ ps2 = ps) ∧ fileB wr (w.heap.size + 2) (w.heap.size + 2) (w.heap.size + 1) acc ∧ MpS wr (w.heap.size + 1) k ps1) (fun i _ => b1 - (intOf i).toNat)
 case atStart => exact ⟨0,headW,[],ps,Nat.zero_le _,rfl,hbw2,by have:=fileB_lt hf2';omega,Lh HP0.out,Lh rfl,hf2',HM2⟩
 case round =>
   obtain ⟨k,acc,ps1,ps2,hk,rfl,hbr,hzr,HP,HQ,HF,HM⟩:=hrel
   by_cases hlk : k < b1
   · have hvr : ItemsAt S d wr (.slice a1 b1 c1) l:=HV.out.kept (fun b h => hbr.block b (HS.out.1 b h))
     obtain ⟨b,off,rfl⟩:=hvr.addr HN.out k hlk
     obtain ⟨i,y1,t1,x1,y2,t2,x2,hi,hsb,O1,e0,e1,e2,e3,e4,e5,e6,e7⟩:=item_kid hvr HN.out k hlk
     obtain ⟨t,ps3,ht,hrest,rfl⟩:=partsW_step HP.out hi
     have hfit:=HS.out.2.2 i (List.mem_of_getElem? hi)
     have hg:=(numsB_iff i).1 hfit.nums
     have HBT:=Lh (fun (W : World) (hW : Below wr.heap.size wr W) => btext_in S d i.num i.gen i.ob.kind i.ob.n i.ob.g i.ob.s y1 y2 t1 x1 t2 x2 i.ob W hg.1 hg.2.1 hg.2.2.1 hg.2.2.2 hfit.kind
       (O1.kept (fun b h => hW.block b (Nat.lt_of_lt_of_le (HS.out.1 b h) hbr.size)) d) (HS.out.2.1 i (List.mem_of_getElem? hi)) (fun b h => Nat.lt_of_lt_of_le (HS.out.1 b h) (Nat.le_trans hbr.size hW.size)) hfit.chk (HTW.out.below (hbr.trans (hW.mono hbr.size))) rfl (fun _ => Nat.le_trans hfit.bulk (by decide)) hfit.len rfl rfl rfl)
     have hblt : b < wr.heap.size:=Nat.lt_of_lt_of_le (HS.out.1 b hsb) hbr.size
     have hbne : ¬ b = wr.heap.size:=by omega
     have hacc : (acc ++ t).length ≤ 140737488355328:=Nat.le_trans (parts_mono hrest) HR.out
     rw [List.length_append] at hacc
     have HT2:=Lh (And.intro ht hrest)
     have HFR:=Lh (find_fresh HQ.out HPU.out)
     have HG:=Lh hg
     clear hvr hi hsb O1 hfit hg ht hrest
     go_wp2_with fail
     refine (HBT.out _ bel).mono ?_
     rintro e w3 ⟨t',ht',rfl,hb3⟩
     obtain rfl : t' = t:=by have h:=ht'.symm.trans HT2.out.1;injection h
     have hz3:=hb3.size
     simp at hz3
     have X1:=(hb3.block _ (by simp)).trans (heap_new_at wr (.cells #[.int .i64 i.num,.int .i64 i.gen,.int .i64 i.ob.kind,.int .i64 i.ob.n,.int .i64 i.ob.g,.string ⟨i.ob.s.toArray⟩,.slice y1 t1 x1,.slice y2 t2 x2] 50) _ rfl)
     obtain ⟨z0,z1,z2,z3,z4,z5,z6,z7⟩:=eight_of X1
     have hbz3 : Below wr.heap.size wr w3:=((Below.refl _ wr).alloc (Nat.le_refl _) (.cells #[.int .i64 i.num,.int .i64 i.gen,.int .i64 i.ob.kind,.int .i64 i.ob.n,.int .i64 i.ob.g,.string ⟨i.ob.s.toArray⟩,.slice y1 t1 x1,.slice y2 t2 x2] 50)).trans (hb3.mono (by simp))
     have HF3:=fileB_below HF hbz3
     have HM3:=HM.below hbz3
     have cm:=fileB_map HF3
     have hbw3 : Below w.heap.size w w3:=hbr.trans (hbz3.mono hbr.size)
     clear hb3 X1 ht'
     have HF3d : fileB w3.drew (w.heap.size + 2) (w.heap.size + 2) (w.heap.size + 1) acc:=HF3
     have cmd : w3.drew.cell? ⟨w.heap.size + 2,2,none⟩ = some (.map (some (w.heap.size + 1))):=cm
     have HM3d : MpS w3.drew (w.heap.size + 1) k ps1:=HM3
     obtain ⟨D,hown,hD⟩:=HM3d
     have HPS:=Lh (hD.push ⟨i.num,1,acc.length,i.gen⟩ HFR.out)
     obtain ⟨w6,hrun6,hown6,hg6⟩:=hown.update (int_keyed Tryz.underlying3) Tryz.underlying101 (by unfold maxLen;omega) (keyOf_int_mk Tryz.underlying3 (wf_num (c:=i.num) (by have:=HG.out;omega) (by have:=HG.out;omega))) (slotR_slV ⟨i.num,1,acc.length,i.gen⟩)
     simp only [slV] at hrun6
     have HM6 : MpS w6 (w.heap.size + 1) (k + 1) (ps1 ++ [⟨i.num,1,acc.length,i.gen⟩]):=⟨_,hown6,HPS.out⟩
     have HF6:=fileB_other HF3d (by omega) hg6.os hg6.tape hg6.output hg6.size (fun j hj hne => hg6.block j hj (fun e => hne (by cases e;rfl)))
     have hbw6 : Below w.heap.size w w6:=hbw3.drew.grown hg6 hbw3.drew.size (fun j hj => by cases hj;omega)
     have hz6 : w.heap.size + 3 ≤ w6.heap.size:=by have:=hg6.size;have h : w3.drew.heap.size = w3.heap.size:=rfl;omega
     have m2 : w6.cell? ⟨w.heap.size + 1 + 1,2,none⟩ = some (.map (some (w.heap.size + 1))):=fileB_map HF6
     have hz3d : wr.heap.size < w3.drew.heap.size:=by have h : w3.drew.heap.size = w3.heap.size:=rfl;omega
     have m0 : w6.cell? ⟨wr.heap.size,0,none⟩ = some (.int .i64 i.num):=(World.cell?_of_block (a:=⟨wr.heap.size,0,none⟩) (hg6.block _ hz3d (fun e => by simp at e;omega))).trans z0
     have m1 : w6.cell? ⟨wr.heap.size,1,none⟩ = some (.int .i64 i.gen):=(World.cell?_of_block (a:=⟨wr.heap.size,1,none⟩) (hg6.block _ hz3d (fun e => by simp at e;omega))).trans z1
     clear hown hD hown6 hg6 HF3 HM3 HPS cm z2 z3 z4 z5 z6 z7 hz3d
     have cmd' : w3.drew.cell? ⟨w.heap.size + 1 + 1,2,none⟩ = some (.map (some (w.heap.size + 1))):=cmd
     have k0 : w3.drew.cell? ⟨wr.heap.size,0,none⟩ = some (.int .i64 i.num):=z0
     have k1 : w3.drew.cell? ⟨wr.heap.size,1,none⟩ = some (.int .i64 i.gen):=z1
     have HLEN:=Lh (show Calls Tryz.prog 50 #[.pointer (some ⟨w.heap.size + 1 + 1,0,none⟩)] w3.drew (fun e w' => e = .returned (.int .i64 acc.length) ∧ w' = w3.drew) from flen_in _ _ _ _ _ HF3d (by omega))
     go_wp2_with fail
     go_region_held3 (fun w' => w'.cell? ⟨w.heap.size + 1 + 1,2,none⟩ = some (.map (some (w.heap.size + 1))) ∧ w'.cell? ⟨wr.heap.size,0,none⟩ = some (.int .i64 i.num) ∧ w'.cell? ⟨wr.heap.size,1,none⟩ = some (.int .i64 i.gen)) (go_keep)
       ((go_at_call 50;(with_reducible refine (HLEN.out).mono ?_);rintro e w4 ⟨rfl,h4⟩;obtain rfl:=h4.symm))
     all_goals go_wp2_with fail
     all_goals refine (fstr_in (w.heap.size + 2) (w.heap.size + 2) (w.heap.size + 1) acc _ w6 HF6 (by show acc.length + t'.toArray.size ≤ _;simp;omega) (by omega)).mono ?_
     all_goals rintro e w7 ⟨rfl,hf7,hb7,hk7⟩
     all_goals go_wp2
     all_goals go_roundw
     case rel => exact ⟨k + 1,acc ++ t',_,ps3,by omega,by go_num,hbw6.trans (hb7.mono (by omega)),by have:=hb7.size;omega,Lh HT2.out.2,Lh (by rw [List.append_assoc];exact HQ.out),hf7,HM6.kept (hb7.block _ (by omega))⟩
     case measure => simp [intOf];omega
   · have hkn : l.drop k = []:=List.drop_eq_nil_of_le (by rw [HN.out];omega)
     have hP:=HP.out
     rw [hkn] at hP
     obtain ⟨hra,hps⟩ : acc = r ∧ ([] : List Sl) = ps2:=by rw [partsW] at hP;cases hP;exact ⟨rfl,rfl⟩
     have hpp : ps1 = ps:=by have:=HQ.out;rw [← hps,List.append_nil] at this;exact this
     have hkb : k = b1:=by omega
     rw [hra] at HF
     rw [hpp,hkb] at HM
     have HF':=Lh HF
     have HM':=Lh HM
     clear HF HM hkn hP hra hps hpp HP HQ
     go_wp2
     go_ret2
     exact ⟨rfl,HF'.out,HM'.out,hbr⟩
theorem eight_at {w : World} {b : Nat} {t : TypeId} {v0 v1 v2 v3 v4 v5 v6 v7 v8 v9 v10 : Value} (h : w.heap[b]? = some (.cells #[v0, v1, v2, v3, v4, v5, v6, v7, v8, v9, v10] t (0, 0))) :
   w.cell? ⟨b,0,none⟩ = some v0 ∧ w.cell? ⟨b,1,none⟩ = some v1 ∧ w.cell? ⟨b,2,none⟩ = some v2 ∧ w.cell? ⟨b,3,none⟩ = some v3 ∧ w.cell? ⟨b,4,none⟩ = some v4 ∧ w.cell? ⟨b,5,none⟩ = some v5 ∧ w.cell? ⟨b,6,none⟩ = some v6 ∧ w.cell? ⟨b,7,none⟩ = some v7:=by
 simp [World.cell?,h]
theorem trefuse_in (S : Nat → Prop) (d : Nat) (z k n g x1 x2 x3 : Int) (s : L) (p1 p2 p : Option Addr) (m1 c1 m2 c2 cp : Nat) (l : List Sl) (o : Ob) (w : World)
   (hv : RArg slE w (.slice p l.length cp) l) (hl : SlotsOk l) (ho : ObjAt S d w [.int .i64 k,.int .i64 n,.int .i64 g,.string ⟨s.toArray⟩,.slice p1 m1 c1,.slice p2 m2 c2] o) (hsm : smallO d o) (hS : ∀ b,S b → b < w.heap.size)
   (hc : checkB 24 o = 0) (hk : k = 7) :
   Calls Tryz.prog 88 #[.agg #[.int .i64 z,.slice p l.length cp,.int .i64 k,.int .i64 n,.int .i64 g,.string ⟨s.toArray⟩,.slice p1 m1 c1,.slice p2 m2 c2,.int .i64 x1,.int .i64 x2,.int .i64 x3]] w fun e w' => e = .returned (.int .i64 0) ∧ Below w.heap.size w w':=by
 have HT:=Lh (fun (W : World) (hW : Below w.heap.size w W) => tcheck_in (.slice p l.length cp) l W (hv.below hW) hl)
 have HC:=Lh (fun (W : World) (hW : Below w.heap.size w W) => vCheck_in S d W _ o (ho.kept (fun b h => hW.block b (hS b h)) d) hsm (fun b h => Nat.lt_of_lt_of_le (hS b h) hW.size))
 rw [hc] at HC
 subst hk
 obtain ⟨N,hN⟩ : ∃ N,l.length = N:=⟨_,rfl⟩
 have HV:=Lh hv
 have HN:=Lh hN
 have HL:=Lh hl.2
 have hn1 : N ≤ 8192:=by have:=hl.1;omega
 rw [hN] at HV HT
 rw [hN]
 clear hv hN hl ho hsm hS hc
 go_enter Tryz.func88,Tryz.ntmps88
 go_wp2_with fail
 refine (HT.out _ ((Below.refl _ w).alloc (Nat.le_refl _) _)).mono ?_
 rintro e w1 ⟨rfl,hb1⟩
 obtain ⟨w0,hw0⟩ : ∃ w0,w.alloc (.cells #[.int .i64 z,.slice p N cp,.int .i64 7,.int .i64 n,.int .i64 g,.string ⟨s.toArray⟩,.slice p1 m1 c1,.slice p2 m2 c2,.int .i64 x1,.int .i64 x2,.int .i64 x3] 42) = w0:=⟨_,rfl⟩
 have HX:=Lh (show w0.heap[w.heap.size]? = some (.cells #[.int .i64 z,.slice p N cp,.int .i64 7,.int .i64 n,.int .i64 g,.string ⟨s.toArray⟩,.slice p1 m1 c1,.slice p2 m2 c2,.int .i64 x1,.int .i64 x2,.int .i64 x3] 42) by rw [← hw0];exact heap_new_at w (.cells #[.int .i64 z,.slice p N cp,.int .i64 7,.int .i64 n,.int .i64 g,.string ⟨s.toArray⟩,.slice p1 m1 c1,.slice p2 m2 c2,.int .i64 x1,.int .i64 x2,.int .i64 x3] 42) _ rfl)
 have hlt0 : w.heap.size < w0.heap.size:=by rw [← hw0];simp
 have hbw0 : Below w.heap.size w w0:=by rw [← hw0];exact (Below.refl _ w).alloc (Nat.le_refl _) _
 rw [hw0] at hb1
 clear hw0
 obtain ⟨z0,z1,z2,z3,z4,z5,z6,z7⟩:=eight_at ((hb1.block _ hlt0).trans HX.out)
 go_wp2
 go_loopw [18] (fun i wr => ∃ k : Nat,k ≤ N ∧ i = .int .i64 k ∧ Below w0.heap.size w0 wr) (fun i _ => N - (intOf i).toNat)
 case atStart => exact ⟨0,Nat.zero_le _,rfl,hb1⟩
 case round =>
   obtain ⟨k,hk,rfl,hbr⟩:=hrel
   clear z0 z1 z2 z3 z4 z5 z6 z7
   have hzr:=hbr.size
   by_cases hlk : k < N
   · have hvr : RArg slE wr (.slice p N cp) l:=HV.out.below (hbw0.trans (hbr.mono hbw0.size))
     have hk' : k < l.length:=by rw [HN.out];exact hlk
     obtain ⟨b,off,rfl,hblt,a0,a1,a2,a3⟩:=slot_at hvr k hk'
     have hK:=(HL.out k l[k] (List.getElem?_eq_getElem hk')).kind
     obtain ⟨M,hMe⟩ : ∃ N,l[k].num = N:=⟨_,rfl⟩
     obtain ⟨kd,hke⟩ : ∃ N,l[k].kind = N:=⟨_,rfl⟩
     obtain ⟨a,hae⟩ : ∃ N,l[k].a = N:=⟨_,rfl⟩
     obtain ⟨gg,hge⟩ : ∃ N,l[k].b = N:=⟨_,rfl⟩
     rw [hMe] at a0
     rw [hke] at a1 hK
     rw [hae] at a2
     rw [hge] at a3
     have hbne : ¬ b = wr.heap.size:=by omega
     have d2 : ¬ kd = 2:=by omega
     clear hvr hK hMe hke hae hge
     go_wp2
     go_roundw
     case rel => exact ⟨k + 1,by omega,by go_num,hbr.alloc hbr.size _⟩
     case measure => simp [intOf];omega
   · obtain ⟨z0,z1,z2,z3,z4,z5,z6,z7⟩:=eight_at ((hbr.block _ hlt0).trans HX.out)
     go_wp2
     clear z0 z1 z2 z3 z4 z5 z6 z7 hk hlk
     go_loopw [29] (fun i wq => ∃ k : Nat,k ≤ N ∧ i = .int .i64 k ∧ Below w0.heap.size w0 wq) (fun i _ => N - (intOf i).toNat)
     case atStart => exact ⟨0,Nat.zero_le _,rfl,hbr⟩
     case round =>
       obtain ⟨k,hk,rfl,hbq⟩:=hrel
       have hzq:=hbq.size
       by_cases hlk : k < N
       · have hvr : RArg slE _ (.slice p N cp) l:=HV.out.below (hbw0.trans (hbq.mono hbw0.size))
         have hk' : k < l.length:=by rw [HN.out];exact hlk
         obtain ⟨b,off,rfl,hblt,a0,a1,a2,a3⟩:=slot_at hvr k hk'
         have hK:=(HL.out k l[k] (List.getElem?_eq_getElem hk')).num
         have hF:=(HL.out k l[k] (List.getElem?_eq_getElem hk')).first
         obtain ⟨M,hMe⟩ : ∃ N,l[k].num = N:=⟨_,rfl⟩
         obtain ⟨kd,hke⟩ : ∃ N,l[k].kind = N:=⟨_,rfl⟩
         obtain ⟨a,hae⟩ : ∃ N,l[k].a = N:=⟨_,rfl⟩
         obtain ⟨gg,hge⟩ : ∃ N,l[k].b = N:=⟨_,rfl⟩
         rw [hMe] at a0 hK
         rw [hke] at a1 hF
         rw [hae] at a2
         rw [hge] at a3 hF
         have hbne:=Nat.ne_of_lt hblt
         by_cases hM0 : M = 0
         · obtain ⟨rfl,rfl⟩:=hF (by omega)
           subst hM0
           clear hvr hK hF hMe hke hae hge
           go_wp2
           go_roundw
           case rel => exact ⟨k + 1,by omega,by go_num,hbq.alloc hbq.size _⟩
           case measure => simp [intOf];omega
         · clear hvr hK hF hMe hke hae hge
           go_wp2
           go_roundw
           case rel => exact ⟨k + 1,by omega,by go_num,hbq.alloc hbq.size _⟩
           case measure => simp [intOf];omega
       · obtain ⟨z0,z1,z2,z3,z4,z5,z6,z7⟩:=eight_at ((hbq.block _ hlt0).trans HX.out)
         go_wp2_with fail
         refine (HC.out _ (hbw0.trans (hbq.mono hbw0.size))).mono ?_
         rintro e w3 ⟨rfl,hb3⟩
         have hbz:=hbq.trans (hb3.mono hzq)
         clear z0 z1 z2 z3 z4 z5 z6 z7
         obtain ⟨z0,z1,z2,z3,z4,z5,z6,z7⟩:=eight_at ((hbz.block _ hlt0).trans HX.out)
         go_wp2
         go_ret
         exact ⟨rfl,hbw0.trans (hbz.mono hbw0.size)⟩
theorem write_good {o : Ob} (hc : checkB 24 o = 0) (h9 : o.kind ≠ 9) : writeW o = .good (textW o):=by
 unfold writeW;rw [hc];rw [if_neg (by decide),if_neg h9]
theorem digI_nat (n : Nat) : digI (n : Int) = digU n:=by unfold digI;rw [if_neg (by omega)];rfl
theorem intV_nat (n : Nat) (h : n ≤ 2147483647) : intV (n : Int) = .tuple #[.string ⟨(digU n).toArray⟩,.int .i64 0]:=by unfold intV;rw [if_neg (by omega),digI_nat]
theorem padW_len (k n : Nat) (h : (digU n).length ≤ k) : (padW k n).length = k:=by unfold padW;simp;omega
theorem ttext_in (S : Nat → Prop) (d : Nat) (z k n g x1 x2 x3 : Int) (s : L) (p1 p2 p : Option Addr) (m1 c1 m2 c2 cp : Nat) (l : List Sl) (o : Ob) (w : World)
   (hv : RArg slE w (.slice p l.length cp) l) (hl : SlotsOk l) (hl1 : 0 < l.length) (hcp : l.length ≤ cp) (ho : ObjAt S d w [.int .i64 k,.int .i64 n,.int .i64 g,.string ⟨s.toArray⟩,.slice p1 m1 c1,.slice p2 m2 c2] o) (hsm : smallO d o) (hS : ∀ b,S b → b < w.heap.size)
   (hc : checkB 24 o = 0) (hk : k = 7) (hok : o.kind = 7) (hT : TabP w) (hbk : bulkO 24 o ≤ 2000000) :
   Calls Tryz.prog 51 #[.agg #[.int .i64 z,.slice p l.length cp,.int .i64 k,.int .i64 n,.int .i64 g,.string ⟨s.toArray⟩,.slice p1 m1 c1,.slice p2 m2 c2,.int .i64 x1,.int .i64 x2,.int .i64 x3]] w fun e w' =>
     e = .returned (.tuple #[.string ⟨(tableW l o).toArray⟩,.int .i64 0]) ∧ Below w.heap.size w w':=by
 have kept:=fun (W : World) (hW : Below w.heap.size w W) => ho.kept (fun b h => hW.block b (hS b h)) d
 have HRF:=Lh (fun (W : World) (hW : Below w.heap.size w W) => trefuse_in S d z k n g x1 x2 x3 s p1 p2 p m1 c1 m2 c2 cp l o W (hv.below hW) hl (kept W hW) hsm (fun b h => Nat.lt_of_lt_of_le (hS b h) hW.size) hc hk)
 have hwg:=write_good hc (by rw [hok];decide)
 have HWT:=Lh (fun (W : World) (hW : Below w.heap.size w W) => by
   have:=wText_in S d W _ o (kept W hW) hsm (fun b h => Nat.lt_of_lt_of_le (hS b h) hW.size) (hT.below hW) (fun _ => hbk)
   rw [hwg] at this
   exact this)
 have HRN:=Lh (fun (W : World) (hW : Below w.heap.size w W) => truns_in (.slice p l.length cp) l W (hv.below hW) hl)
 have HTL : Hid ((textW o).length ≤ 100000000):=Lh (by
   have:=textW_le (okO_of_check hc (by rw [hok];decide))
   omega)
 subst hk
 obtain ⟨T,hTx⟩ : ∃ T,textW o = T:=⟨_,rfl⟩
 have HR:=Lh (show tableW l o = wXref ++ (48 :: 32 :: (digU l.length ++ 10 :: (l.flatMap rowW ++ (wTrailer ++ (T ++ [10]))))) by rw [← hTx];rfl)
 rw [hTx] at HWT HTL
 obtain ⟨R,hRx⟩ : ∃ R,tableW l o = R:=⟨_,rfl⟩
 rw [hRx] at HR ⊢
 obtain ⟨N,hN⟩ : ∃ N,l.length = N:=⟨_,rfl⟩
 have HV:=Lh hv
 have HN:=Lh hN
 have HL:=Lh hl.2
 have hn1 : N ≤ 8192:=by have:=hl.1;omega
 have hn0 : 0 < N:=by omega
 rw [hN] at HV HRF HRN HR hcp
 rw [hN]
 clear hv hN hl ho hsm hS hc kept hwg hTx hRx hbk hok hl1
 go_enter Tryz.func51,Tryz.ntmps51
 go_wp2_with fail
 refine (HRF.out _ ((Below.refl _ w).alloc (Nat.le_refl _) _)).mono ?_
 rintro e w1 ⟨rfl,hb1⟩
 obtain ⟨w0,hw0⟩ : ∃ w0,w.alloc (.cells #[.int .i64 z,.slice p N cp,.int .i64 7,.int .i64 n,.int .i64 g,.string ⟨s.toArray⟩,.slice p1 m1 c1,.slice p2 m2 c2,.int .i64 x1,.int .i64 x2,.int .i64 x3] 42) = w0:=⟨_,rfl⟩
 have HX:=Lh (show w0.heap[w.heap.size]? = some (.cells #[.int .i64 z,.slice p N cp,.int .i64 7,.int .i64 n,.int .i64 g,.string ⟨s.toArray⟩,.slice p1 m1 c1,.slice p2 m2 c2,.int .i64 x1,.int .i64 x2,.int .i64 x3] 42) by rw [← hw0];exact heap_new_at w (.cells #[.int .i64 z,.slice p N cp,.int .i64 7,.int .i64 n,.int .i64 g,.string ⟨s.toArray⟩,.slice p1 m1 c1,.slice p2 m2 c2,.int .i64 x1,.int .i64 x2,.int .i64 x3] 42) _ rfl)
 have hlt0 : w.heap.size < w0.heap.size:=by rw [← hw0];simp
 have hbw0 : Below w.heap.size w w0:=by rw [← hw0];exact (Below.refl _ w).alloc (Nat.le_refl _) _
 rw [hw0] at hb1
 clear hw0
 obtain ⟨z0,z1,z2,z3,z4,z5,z6,z7⟩:=eight_at ((hb1.block _ hlt0).trans HX.out)
 go_wp2_with fail
 refine (HWT.out _ (hbw0.trans (hb1.mono hbw0.size))).mono ?_
 rintro e w2 ⟨he,hb2⟩
 obtain rfl:=he
 have hb02:=hb1.trans (hb2.mono hb1.size)
 clear z0 z1 z2 z3 z4 z5 z6 z7 hb1 hb2 HWT HRF w1
 obtain ⟨z0,z1,z2,z3,z4,z5,z6,z7⟩:=eight_at ((hb02.block _ hlt0).trans HX.out)
 go_wp2_with fail
 refine (blf_str w2.heap.size [] _ _ (bldF_fresh w2) (by decide) (by simp)).mono ?_
 rintro e w3 ⟨rfl,h3,hb3,_⟩
 obtain ⟨B,hB⟩ : ∃ B,w2.heap.size = B:=⟨_,rfl⟩
 have hb03 : Below w0.heap.size w0 w3:=hb02.trans ((((Below.refl _ w2).alloc (Nat.le_refl _) _).trans hb3).mono hb02.size)
 have hB0 : w0.heap.size ≤ B:=by rw [← hB];exact hb02.size
 have hB3 : B < w3.heap.size:=by have:=hb3.size;simp at this;omega
 rw [hB] at h3 ⊢
 clear hb3 hB z0 z1 z2 z3 z4 z5 z6 z7 hb02
 obtain ⟨z0,z1,z2,z3,z4,z5,z6,z7⟩:=eight_at ((hb03.block _ hlt0).trans HX.out)
 go_wp2_with fail
 refine (HRN.out _ (hbw0.trans (hb03.mono hbw0.size))).mono ?_
 rintro e w4 ⟨r,rfl,hr,hb4⟩
 obtain ⟨h0,_⟩ | ⟨_,gr,cr,cur,rfl,hgr,hgh,e0,e1⟩:=hr
 · omega
 have HB4:=Lh (bldF_below h3 hb4)
 have hb04:=hb03.trans (hb4.mono hb03.size)
 have hz4:=hb4.size
 have HG:=Lh (And.intro hgh (And.intro e0 e1))
 clear z0 z1 z2 z3 z4 z5 z6 z7 h3 hb4 hgh e0 e1 HRN hb03
 have HPI0:=Lh (fun W hW => pInt_in 0 (by decide) (by decide) W hW)
 have HPIN:=Lh (fun W hW => pInt_in (N : Int) (by omega) (by omega) W hW)
 rw [show intV 0 = .tuple #[.string ⟨#[48]⟩,.int .i64 0] by have:=intV_nat 0 (by decide);rw [show digU 0 = [48] by unfold digU;rfl] at this;exact this] at HPI0
 rw [intV_nat N (by omega)] at HPIN
 obtain ⟨D,hD⟩ : ∃ D,digU N = D:=⟨_,rfl⟩
 have hDl : D.length ≤ 20:=by rw [← hD];exact Nat.le_trans (digU_len N 10 (Nat.lt_of_le_of_lt hn1 (by decide))) (by decide)
 rw [hD] at HPIN HR
 clear hD
 go_wp2
 go_loopw [8,38] (fun lv i wr => (lv = .slice p N cp ∧ i = .int .i64 0 ∧ bldF wr B [120,114,101,102,10] ∧ Below w4.heap.size w4 wr) ∨
   (i = .int .i64 1 ∧ bldF wr B ([120,114,101,102,10] ++ (48 :: 32 :: (D ++ 10 :: l.flatMap rowW))) ∧ Below w0.heap.size w0 wr)) (fun _ i _ => 1 - (intOf i).toNat)
 case atStart => exact .inl ⟨rfl,rfl,HB4.out,Below.refl _ _⟩
 case round =>
   obtain ⟨rfl,rfl,hbl,hbr⟩ | ⟨rfl,hbl,hbr⟩:=hrel
   · have q0 : wr.cell? ⟨gr, 0, none⟩ = some (.int .i64 0) := by
       have:=(hbr.block _ (lt_of_block HG.out.1)).trans HG.out.1
       simp [World.cell?,this,HG.out.2.1]
     have q1 : wr.cell? ⟨gr,1,none⟩ = some (.int .i64 N):=by
       have:=(hbr.block _ (lt_of_block HG.out.1)).trans HG.out.1
       simp [World.cell?,this,HG.out.2.2]
     have hgne : ¬ gr = wr.heap.size:=by have:=hbr.size;have:=lt_of_block HG.out.1;omega
     go_wp2_with fail
     have hb0r : Below w0.heap.size w0 wr:=hb04.trans (hbr.mono hb04.size)
     have hb5 : Below wr.heap.size wr (wr.alloc (.cells #[.int .i64 0,.int .i64 N] 119)):=(Below.refl _ _).alloc (Nat.le_refl _) _
     refine (HPI0.out _ (hT.below (hbw0.trans ((hb0r.trans (hb5.mono hb0r.size)).mono hbw0.size)))).mono ?_
     rintro e w5 ⟨rfl,hb6⟩
     have X5:=(hb6.block _ (by simp)).trans (heap_new_at wr (.cells #[.int .i64 0,.int .i64 N] 119) _ rfl)
     have c5 : w5.cell? ⟨wr.heap.size,1,none⟩ = some (.int .i64 N):=by simp [World.cell?,X5]
     have hbr5 : Below wr.heap.size wr w5:=hb5.trans (hb6.mono hb5.size)
     have hz5 : wr.heap.size < w5.heap.size:=by have:=hb6.size;simp at this;omega
     clear hb5 hb6
     go_wp2_with fail
     refine (HPIN.out _ (hT.below (hbw0.trans ((hb0r.trans (hbr5.mono hb0r.size)).mono hbw0.size)))).mono ?_
     rintro e w6 ⟨rfl,hb6⟩
     have X6:=(hb6.block _ hz5).trans X5
     have c6 : w6.cell? ⟨wr.heap.size,1,none⟩ = some (.int .i64 N):=by simp [World.cell?,X6]
     have hbr6 : Below wr.heap.size wr w6:=hbr5.trans (hb6.mono hbr5.size)
     have hz6 : wr.heap.size < w6.heap.size:=Nat.lt_of_lt_of_le hz5 hb6.size
     have g1 : 1 + D.length + 1 ≤ 9223372036854775807:=by omega
     clear hb6 c5 X5 hbr5
     go_wp2_with fail
     rw [show (⟨#[48]⟩ ++ ⟨#[32]⟩ ++ ⟨D.toArray⟩ ++ ⟨#[10]⟩ : ByteArray) = ⟨(48 :: 32 :: (D ++ [10])).toArray⟩ by simp [ByteArray.mk_append_mk]]
     have hzr:=hbr.size
     refine (blf_str B _ _ w6 (bldF_below hbl (hbr6.mono (Nat.le_refl _))) ?hl1 (by omega)).mono ?_
     case hl1 => show 5 + (48 :: 32 :: (D ++ [10])).length ≤ _;simp;omega
     rintro e w7 ⟨rfl,h7,hb7,hk7⟩
     have X7:=hk7 _ _ X6 (by simp;omega) (by rintro c fz ⟨⟩)
     have c7 : w7.cell? ⟨wr.heap.size,1,none⟩ = some (.int .i64 N):=by simp [World.cell?,X7]
     have hb07 : Below w0.heap.size w0 w7:=(hb0r.trans (hbr6.mono hb0r.size)).trans (hb7.mono hB0)
     have hz7:=hb7.size
     obtain ⟨q,hq⟩ : ∃ q,wr.heap.size = q:=⟨_,rfl⟩
     rw [hq] at X7 c7 hz6 ⊢
     clear q0 q1 hgne c6 X6 hbr6 hk7 hb7 HB4 g1 HPI0 HPIN hbl
     have gN0 : (0 : Int) ≤ (N : Int):=by omega
     have hcp0 : (N : Int) ≤ (cp : Int):=by omega
     obtain ⟨pre,hpre⟩ : ∃ pre : L,[120,114,101,102,10] ++ (48 :: 32 :: (D ++ [10])) = pre:=⟨_,rfl⟩
     have hpl : pre.length ≤ 40:=by rw [← hpre];simp;omega
     have h7' : bldF w7 B pre:=by rw [← hpre];exact h7
     have HPRE:=Lh hpre
     clear h7 hpre
     go_wp2
     go_loopw [65] (fun i wq => ∃ k : Nat,k ≤ N ∧ i = .int .i64 k ∧ Hid (bldF wq B (pre ++ (l.take k).flatMap rowW)) ∧ Below w0.heap.size w0 wq ∧ w7.heap.size ≤ wq.heap.size ∧ wq.heap[q]? = some (.cells #[.int .i64 0,.int .i64 N] 119 (0,0))) (fun i _ => N - (intOf i).toNat)
     case atStart => exact ⟨0,Nat.zero_le _,rfl,Lh (by simpa using h7'),hb07,Nat.le_refl _,X7⟩
     case round =>
       clear c7 X7 h7'
       obtain ⟨k,hk,rfl,HBL,hbq,hzq,XQ⟩:=hrel
       by_cases hlk : k < N
       · have hvr : RArg slE wr (.slice p N cp) l:=HV.out.below (hbw0.trans (hbq.mono hbw0.size))
         have hk' : k < l.length:=by rw [HN.out];exact hlk
         obtain ⟨b,off,rfl,hblt,a0,a1,a2,a3⟩:=slot_at hvr k hk'
         obtain ⟨_,hK,hA0,hA1,hG0,hG1,_⟩:=HL.out k l[k] (List.getElem?_eq_getElem hk')
         have htk : (l.take (k + 1)).flatMap rowW = (l.take k).flatMap rowW ++ rowW l[k]:=by
           rw [List.take_succ_eq_append_getElem hk',List.flatMap_append];simp
         have hrl : ((l.take k).flatMap rowW).length ≤ 20 * 8192:=by
           have : ∀ (m : List Sl),(∀ x ∈ m,(rowW x).length ≤ 20) → (m.flatMap rowW).length ≤ 20 * m.length:=by
             intro m
             induction m with
             | nil => intro _;simp
             | cons y m ih =>
               intro h
               have h1:=h y List.mem_cons_self
               have h2:=ih fun x hx => h x (List.mem_cons_of_mem _ hx)
               simp only [List.flatMap_cons,List.length_append,List.length_cons]
               omega
           refine Nat.le_trans (this _ fun x hx => ?_) ?_
           · obtain ⟨j,hj,rfl⟩:=List.getElem_of_mem (List.mem_of_mem_take hx)
             obtain ⟨_,_,q0,q1,q2,q3,_⟩:=HL.out j l[j] (List.getElem?_eq_getElem hj)
             have e1:=padW_len 10 l[j].a.toNat (digU_len _ 9 (by omega))
             have e2:=padW_len 5 l[j].b.toNat (digU_len _ 4 (by omega))
             unfold rowW
             simp only [List.length_append,List.length_cons,List.length_nil,e1,e2]
             omega
           · rw [List.length_take];omega
         obtain ⟨M,hMe⟩ : ∃ N,l[k].num = N:=⟨_,rfl⟩
         obtain ⟨kd,hke⟩ : ∃ N,l[k].kind = N:=⟨_,rfl⟩
         obtain ⟨a,hae⟩ : ∃ N,l[k].a = N:=⟨_,rfl⟩
         obtain ⟨gg,hge⟩ : ∃ N,l[k].b = N:=⟨_,rfl⟩
         have hrow : rowW l[k] = padW 10 a.toNat ++ 32 :: (padW 5 gg.toNat ++ [32,if kd = 1 then 110 else 102,32,10]):=by unfold rowW;rw [hae,hge,hke]
         rw [hMe] at a0
         rw [hke] at a1 hK
         rw [hae] at a2 hA0 hA1
         rw [hge] at a3 hG0 hG1
         rw [hrow] at htk
         clear hrow hMe hke hae hge
         obtain ⟨A,rfl⟩:=Int.eq_ofNat_of_zero_le hA0
         obtain ⟨G,rfl⟩:=Int.eq_ofNat_of_zero_le hG0
         simp only [Int.toNat_natCast] at htk
         have HP1:=Lh (show ∀ W,TabP W → Calls Tryz.prog 92 #[.int .i64 (A : Int),.int .i64 10] W fun e w' => e = .returned (.string ⟨(padW 10 A).toArray⟩) ∧ Below W.heap.size W w' from fun W hW => pad_in A 10 (by omega) (by decide) (by decide) (digU_len _ 9 (by omega)) W hW)
         have HP2:=Lh (show ∀ W,TabP W → Calls Tryz.prog 92 #[.int .i64 (G : Int),.int .i64 5] W fun e w' => e = .returned (.string ⟨(padW 5 G).toArray⟩) ∧ Below W.heap.size W w' from fun W hW => pad_in G 5 (by omega) (by decide) (by decide) (digU_len _ 4 (by omega)) W hW)
         have e1:=padW_len 10 A (digU_len _ 9 (by omega))
         have e2:=padW_len 5 G (digU_len _ 4 (by omega))
         obtain ⟨P1,hP1⟩ : ∃ P,padW 10 A = P:=⟨_,rfl⟩
         obtain ⟨P2,hP2⟩ : ∃ P,padW 5 G = P:=⟨_,rfl⟩
         rw [hP1] at HP1 htk e1
         rw [hP2] at HP2 htk e2
         obtain ⟨acc,hacc⟩ : ∃ acc,(l.take k).flatMap rowW = acc:=⟨_,rfl⟩
         rw [hacc] at hrl HBL htk
         clear hacc
         have HTK:=Lh htk
         have HTW:=Lh (hT.below (hbw0.trans (hbq.mono hbw0.size)))
         have hbne:=Nat.ne_of_lt hblt
         clear hvr htk hP1 hP2 hA0 hA1 hG0 hG1
         by_cases hk1 : kd = 1
         · subst hk1
           rw [if_pos rfl] at HTK
           go_wp2
           obtain ⟨w8,hw8⟩ : ∃ w8,wr.alloc (.cells #[.int .i64 M,.int .i64 1,.int .i64 A,.int .i64 G] 48) = w8:=⟨_,rfl⟩
           have X8 : w8.heap[wr.heap.size]? = some (.cells #[.int .i64 M,.int .i64 1,.int .i64 A,.int .i64 G] 48 (0,0)):=by rw [← hw8];exact heap_new_at wr _ _ rfl
           have hb8 : Below wr.heap.size wr w8:=by rw [← hw8];exact (Below.refl _ wr).alloc (Nat.le_refl _) _
           rw [hw8]
           have hz8 : w8.heap.size = wr.heap.size + 1:=by rw [← hw8];simp
           clear hw8
           obtain ⟨_,_,k2,k3⟩:=four_of (show w8.drew.heap[wr.heap.size]? = _ from X8)
           have HB8:=Lh (show Below wr.heap.size wr w8.drew from hb8.drew)
           have HZ8:=Lh (show wr.heap.size < w8.drew.heap.size by show wr.heap.size < w8.heap.size;omega)
           have HX8:=Lh (show w8.drew.heap[wr.heap.size]? = some (.cells #[.int .i64 M,.int .i64 1,.int .i64 A,.int .i64 G] 48 (0,0)) from X8)
           have g1 : ¬ 9223372036854775807 < P1.length + 1:=by omega
           have g2 : ¬ 9223372036854775807 < P1.length + 1 + P2.length:=by omega
           have g3 : ¬ 9223372036854775807 < P1.length + 1 + P2.length + 1:=by omega
           have g4 : ¬ 9223372036854775807 < P1.length + 1 + P2.length + 1 + 1:=by omega
           have g5 : ¬ 9223372036854775807 < P1.length + 1 + P2.length + 1 + 1 + 2:=by omega
           have HBLB:=Lh (show B ≤ wr.heap.size by omega)
           go_region_held3 (fun w' => w'.cell? ⟨wr.heap.size,2,none⟩ = some (.int .i64 A) ∧ w'.cell? ⟨wr.heap.size,3,none⟩ = some (.int .i64 G)) (go_keep)
             (first
               | (go_at_call 92;(first | (with_reducible refine (HP1.out _ (HTW.out.below HB8.out)).mono ?_) | (with_reducible refine (HP2.out _ (HTW.out.below HB8.out)).mono ?_));rintro e w4 ⟨rfl,hb⟩;(replace HX8:=Lh ((hb.block _ HZ8.out).trans HX8.out));(replace HB8:=Lh (HB8.out.trans (hb.mono HB8.out.size)));(replace HZ8:=Lh (Nat.lt_of_lt_of_le HZ8.out hb.size));obtain ⟨_,_,k2,k3⟩:=four_of HX8.out;clear hb)
               | (go_at_call 52;(refine (blf_str B _ _ _ (bldF_below HBL.out HB8.out) (by simp [ByteArray.size];omega) (Nat.le_trans HBLB.out HB8.out.size)).mono ?_);rintro e w7 ⟨rfl,hbl,hb,hok⟩;have HBF:=Lh hbl;have HBZ:=Lh ((HB8.out.mono HBLB.out).trans hb);have XQ7:=Lh (hok _ _ ((HB8.out.block _ (lt_of_block XQ)).trans XQ) (by simp;omega) (by rintro c fz ⟨⟩));(replace HX8:=Lh (hok _ _ HX8.out (by simp;omega) (by rintro c fz ⟨⟩)));obtain ⟨_,_,k2,k3⟩:=four_of HX8.out;clear hbl hb hok))
           all_goals go_wp2
           all_goals go_roundw
           case rel => exact ⟨k + 1,by omega,by go_num,Lh (by rw [HTK.out];have:=HBF.out;simpa [ByteArray.mk_append_mk] using this),hbq.trans (HBZ.out.mono hB0),Nat.le_trans hzq HBZ.out.size,XQ7.out⟩
           case measure => simp [intOf];omega
         · obtain rfl : kd = 0:=by omega
           rw [if_neg hk1] at HTK
           go_wp2
           obtain ⟨w8,hw8⟩ : ∃ w8,wr.alloc (.cells #[.int .i64 M,.int .i64 0,.int .i64 A,.int .i64 G] 48) = w8:=⟨_,rfl⟩
           have X8 : w8.heap[wr.heap.size]? = some (.cells #[.int .i64 M,.int .i64 0,.int .i64 A,.int .i64 G] 48 (0,0)):=by rw [← hw8];exact heap_new_at wr _ _ rfl
           have hb8 : Below wr.heap.size wr w8:=by rw [← hw8];exact (Below.refl _ wr).alloc (Nat.le_refl _) _
           rw [hw8]
           have hz8 : w8.heap.size = wr.heap.size + 1:=by rw [← hw8];simp
           clear hw8
           obtain ⟨_,_,k2,k3⟩:=four_of (show w8.drew.heap[wr.heap.size]? = _ from X8)
           have HB8:=Lh (show Below wr.heap.size wr w8.drew from hb8.drew)
           have HZ8:=Lh (show wr.heap.size < w8.drew.heap.size by show wr.heap.size < w8.heap.size;omega)
           have HX8:=Lh (show w8.drew.heap[wr.heap.size]? = some (.cells #[.int .i64 M,.int .i64 0,.int .i64 A,.int .i64 G] 48 (0,0)) from X8)
           have g1 : ¬ 9223372036854775807 < P1.length + 1:=by omega
           have g2 : ¬ 9223372036854775807 < P1.length + 1 + P2.length:=by omega
           have g3 : ¬ 9223372036854775807 < P1.length + 1 + P2.length + 1:=by omega
           have g4 : ¬ 9223372036854775807 < P1.length + 1 + P2.length + 1 + 1:=by omega
           have g5 : ¬ 9223372036854775807 < P1.length + 1 + P2.length + 1 + 1 + 2:=by omega
           have HBLB:=Lh (show B ≤ wr.heap.size by omega)
           go_region_held3 (fun w' => w'.cell? ⟨wr.heap.size,2,none⟩ = some (.int .i64 A) ∧ w'.cell? ⟨wr.heap.size,3,none⟩ = some (.int .i64 G)) (go_keep)
             (first
               | (go_at_call 92;(first | (with_reducible refine (HP1.out _ (HTW.out.below HB8.out)).mono ?_) | (with_reducible refine (HP2.out _ (HTW.out.below HB8.out)).mono ?_));rintro e w4 ⟨rfl,hb⟩;(replace HX8:=Lh ((hb.block _ HZ8.out).trans HX8.out));(replace HB8:=Lh (HB8.out.trans (hb.mono HB8.out.size)));(replace HZ8:=Lh (Nat.lt_of_lt_of_le HZ8.out hb.size));obtain ⟨_,_,k2,k3⟩:=four_of HX8.out;clear hb)
               | (go_at_call 52;(refine (blf_str B _ _ _ (bldF_below HBL.out HB8.out) (by simp [ByteArray.size];omega) (Nat.le_trans HBLB.out HB8.out.size)).mono ?_);rintro e w7 ⟨rfl,hbl,hb,hok⟩;have HBF:=Lh hbl;have HBZ:=Lh ((HB8.out.mono HBLB.out).trans hb);have XQ7:=Lh (hok _ _ ((HB8.out.block _ (lt_of_block XQ)).trans XQ) (by simp;omega) (by rintro c fz ⟨⟩));(replace HX8:=Lh (hok _ _ HX8.out (by simp;omega) (by rintro c fz ⟨⟩)));obtain ⟨_,_,k2,k3⟩:=four_of HX8.out;clear hbl hb hok))
           all_goals go_wp2
           all_goals go_roundw
           case rel => exact ⟨k + 1,by omega,by go_num,Lh (by rw [HTK.out];have:=HBF.out;simpa [ByteArray.mk_append_mk] using this),hbq.trans (HBZ.out.mono hB0),Nat.le_trans hzq HBZ.out.size,XQ7.out⟩
           case measure => simp [intOf];omega
       · have HALL:=Lh (show bldF wr B (pre ++ l.flatMap rowW) by have:=HBL.out;rw [List.take_of_length_le (by rw [HN.out];omega)] at this;exact this)
         have c9 : wr.cell? ⟨q,1,none⟩ = some (.int .i64 N):=by simp [World.cell?,XQ]
         clear HBL
         go_wp2
         go_roundw
         case rel => exact .inr ⟨by go_num,by have:=HALL.out;rw [← HPRE.out] at this;simpa using this,hbq⟩
         case measure => simp [intOf]
   · have hTl:=HTL.out
     have g1 : ¬ 9223372036854775807 < 8 + T.length:=by omega
     have g2 : ¬ 9223372036854775807 < 8 + T.length + 1:=by omega
     have hfl : (l.flatMap rowW).length ≤ 1000000:=by
       have : ∀ (m : List Sl),(∀ x ∈ m,(rowW x).length ≤ 20) → (m.flatMap rowW).length ≤ 20 * m.length:=by
         intro m
         induction m with
         | nil => intro _;simp
         | cons y m ih =>
           intro h
           have h1:=h y List.mem_cons_self
           have h2:=ih fun x hx => h x (List.mem_cons_of_mem _ hx)
           simp only [List.flatMap_cons,List.length_append,List.length_cons]
           omega
       refine Nat.le_trans (this _ fun x hx => ?_) (by rw [HN.out];omega)
       obtain ⟨j,hj,rfl⟩:=List.getElem_of_mem hx
       obtain ⟨_,_,q0,q1,q2,q3,_⟩:=HL.out j l[j] (List.getElem?_eq_getElem hj)
       have e1:=padW_len 10 l[j].a.toNat (digU_len _ 9 (by omega))
       have e2:=padW_len 5 l[j].b.toNat (digU_len _ 4 (by omega))
       unfold rowW
       simp only [List.length_append,List.length_cons,List.length_nil,e1,e2]
       omega
     have hz4':=hbr.size
     obtain ⟨F,hF⟩ : ∃ F,l.flatMap rowW = F:=⟨_,rfl⟩
     rw [hF] at hbl HR hfl
     clear hF
     have hBr : B ≤ wr.heap.size:=Nat.le_of_lt (bldF_lt hbl)
     go_wp2_with fail
     rw [show (⟨#[116,114,97,105,108,101,114,10]⟩ ++ ⟨T.toArray⟩ ++ ⟨#[10]⟩ : ByteArray) = ⟨(wTrailer ++ (T ++ [10])).toArray⟩ by simp [ByteArray.mk_append_mk,wTrailer]]
     refine (blf_str B _ _ wr hbl ?hl2 hBr).mono ?_
     case hl2 =>
       show _ + (wTrailer ++ (T ++ [10])).length ≤ _
       simp [wTrailer];omega
     rintro e w5 ⟨rfl,h5,hb5,_⟩
     go_wp2_with fail
     refine (blf_get B _ w5 h5 (Nat.le_trans hBr hb5.size)).mono ?_
     rintro e w6 ⟨rfl,hb6⟩
     have HE:=Lh (hbw0.trans (((hbr.trans (hb5.mono hB0)).trans (hb6.mono hB0)).mono hbw0.size))
     go_wp2
     go_ret2
     exact ⟨by rw [HR.out];simp [wXref],HE.out⟩
theorem ok_below {e : TypeId} {bo : Option Nat} {w w' : World} (hb : Below w.heap.size w w') : Lib.OthersKept e bo w w' :=
 fun k _ h _ _ => (hb.block k ((Array.getElem?_eq_some_iff.1 h).1)).trans h
theorem row_kept {w w' : World} {B fb : Nat} {v : Value} {xs : List Sl} (h : rownS slE 48 w B v xs) (hB : fb < B) (hk : Lib.OthersKept 5 (some fb) w w') : rownS slE 48 w' B v xs:=by
 rcases h with ⟨h0,h1 | ⟨g,cap,cur,h1,h2,h3,h4⟩⟩
 · exact ⟨h0,.inl h1⟩
 · exact ⟨h0,.inr ⟨g,cap,cur,h1,h2,hk g _ h3 (fun e => by simp at e;omega) (fun c fz e => by cases e),h4⟩⟩
theorem hb_step {B : Nat} {w0 w w' : World} (h : Below B w0 w) (hb : Below w.heap.size w w') (hB : B ≤ w.heap.size) : Below B w0 w':=h.trans (hb.mono hB)
theorem hb_stepA {B : Nat} {w0 w w' : World} {o : Go.Obj} (h : Below B w0 w) (hb : Below (w.alloc o).heap.size (w.alloc o) w') (hB : B ≤ w.heap.size) : Below B w0 w' :=
 (h.alloc hB o).trans (hb.mono (by simp;omega))
theorem setS_in (S : Nat → Prop) (d : Nat) (w : World) (l : List It) (t : Ob) (p1 p2 : Option Addr) (n1 c1 n2 c2 : Nat) (h : ObjAt S d w (objCells t.kind t.n t.g t.s (.slice p1 n1 c1) (.slice p2 n2 c2)) t) (hT : TrailOk l t) (m : Int) (h1 : -2147483647 ≤ m) (h2 : m ≤ 2147483647) (hS : ∀ b, S b → b < w.heap.size) :
   Calls Tryz.prog 48 #[.agg #[.int .i64 t.kind,.int .i64 t.n,.int .i64 t.g,.string ⟨t.s.toArray⟩,.slice p1 n1 c1,.slice p2 n2 c2],.string ⟨#[83,105,122,101]⟩,.agg #[.int .i64 2,.int .i64 m,.int .i64 0,.string ⟨#[]⟩,.slice none 0 0,.slice none 0 0]] w (SetOut 24 w (putO t wSize (.int m))):=by
 have h9 : t.kind ≠ 9:=by rw [hT.kind];decide
 have hok:=okO_of_check hT.chk h9
 have hcL:=hT.size h1 h2
 have hokL:=okO_of_check hcL (by unfold putO;exact h9)
 have:=vSet_in S 23 w _ _ t (.int m) wSize (obj_at_ok 24 d h hok) (int_at S 22 w _) hS (.inl hT.kind) hT.chk hcL hT.no_size (show (2 : Int) ≠ 0 by decide) (okO_small _ _ hok) (okO_small _ _ hokL) (okO_tame _ _ hokL) (((checkB_iff 23 _).1 hT.chk).many)
 exact this
def MadeOut (D : Dc) (w : World) (e : Ending) (w' : World) : Prop:=match fileW D with
 | .good (f,l) => ∃ p c,e = .returned (.tuple #[.string ⟨f.toArray⟩,.slice p l.length c,.int .i64 0]) ∧ RArg slE w' (.slice p l.length c) l ∧ Below w.heap.size w w'
 | .bad k => e = .returned (.tuple #[.string ⟨#[]⟩,.slice none 0 0,.int .i64 k]) ∧ Below w.heap.size w w'
theorem made_in (S : Nat → Prop) (d : Nat) (w : World) (cs : List Value) (D : Dc) (h : DocAt S d w cs D) (hS : ∀ b, S b → b < w.heap.size) (hfit : DocFit D) (hTW : TabP w) :
   Calls Tryz.prog 21 #[.agg cs.toArray] w (MadeOut D w):=by
 have HDC:=Lh (fun (W : World) (hW : Below w.heap.size w W) => dCheck_in S d W cs D (by
   obtain ⟨iv,tc,rfl,hI,hl,hsI,hO,hsT⟩:=h
   exact ⟨iv,tc,rfl,hI.kept (fun b h => hW.block b (hS b h)),hl,hsI,hO.kept (fun b h => hW.block b (hS b h)) _,hsT⟩) (fun b h => Nat.lt_of_lt_of_le (hS b h) hW.size))
 obtain ⟨iv,tc,rfl,hI,hl,hsI,hO,hsT⟩:=h
 obtain ⟨p1,n1,c1,p2,n2,c2,rfl⟩:=hO.shape
 obtain ⟨ip,ic,rfl⟩:=hI.slice
 obtain ⟨n,hn⟩ : ∃ n,D.items.length = n:=⟨_,rfl⟩
 rw [hn] at HDC hI ⊢
 unfold objCells at HDC ⊢
 by_cases h0 : docB D = 0
 rotate_left
 · have HR:=Lh (show ∀ e w',(e = .returned (.tuple #[.string ⟨#[]⟩,.slice none 0 0,.int .i64 (docB D)]) ∧ Below w.heap.size w w') → MadeOut D w e w' from fun e w' h => by unfold MadeOut;rw [fileW_bad h0];exact h)
   have eC : (docB D != 0) = true:=by simpa using h0
   obtain ⟨C,hC⟩ : ∃ C,docB D = C:=⟨_,rfl⟩
   rw [hC] at HDC HR eC
   clear h0 hI hl hsI hO hsT hS hn hC hfit hTW
   go_enter Tryz.func21,Tryz.ntmps21
   go_wp2_with fail
   refine (HDC.out _ bel).mono ?_
   rintro e w1 ⟨rfl,hb1⟩
   have hz1:=hb1.size
   simp at hz1
   go_wp2
   refine bodyPost_ret (v:=.tuple #[.string ⟨#[]⟩,.slice none 0 0,.int .i64 C]) (by simp [results,Tryz.results21,go_sem]) rfl (HR.out _ _ ⟨rfl,bel⟩)
 · obtain ⟨r,ps,hM⟩:=made_ok h0 hfit
   rw [h0] at HDC
   have hne:=valid_items h0
   have hlen0 : D.items.length ≠ 0:=by simpa using hne
   obtain ⟨j,rfl⟩ : ∃ j,n = j + 1:=⟨n - 1,by omega⟩
   have HI:=Lh (And.intro hI (And.intro hl hn))
   have HSI:=Lh hsI
   have HS:=Lh hS
   have HTW:=Lh hTW
   have HO:=Lh hO
   have HM:=Lh hM
   have HF:=Lh (fileW_of h0 hM)
   have hj : j < 1000000:=by omega
   have wj : IntKind.i64.wrap (j : Int) = j:=IntWalk.i64_in _ (by omega)
   have gj : decide (0 < (j : Int) + 1) = true:=by rw [decide_eq_true_eq];omega
   clear hI hl hsI hO hsT hS hn hfit hTW hM h0 hne hlen0
   go_enter Tryz.func21,Tryz.ntmps21
   go_wp2_with fail
   refine (HDC.out _ bel).mono ?_
   rintro e w1 ⟨rfl,hb1⟩
   have hz1:=hb1.size
   simp at hz1
   have A1:=(hb1.block _ (by simp)).trans (heap_new_at w _ _ rfl)
   have hbw1 : Below w.heap.size w w1:=bel
   clear hb1
   obtain ⟨a0,a1,a2,a3,a4,a5,a6⟩:=seven_of A1
   have hI1 : ItemsAt S (d + 1) w1 (.slice ip (j + 1) ic) D.items:=HI.out.1.kept (fun b h => hbw1.block b (HS.out b h))
   have HBG:=Lh (begin_in S (d + 1) D.trail.kind D.trail.n D.trail.g ⟨D.trail.s.toArray⟩ ip p1 p2 (j + 1) ic n1 c1 n2 c2 D.items r ps w1 (HTW.out.below hbw1) hI1 HI.out.2.1 HSI.out (fun b h => Nat.lt_of_lt_of_le (HS.out b h) hbw1.size) HM.out.fit HM.out.items HM.out.parts (by have:=HM.out.rlen;omega))
   clear hI1
   go_wp2_with fail
   refine HBG.out.mono ?_
   rintro e w2 ⟨rfl,hF2,hM2,hb2⟩
   obtain ⟨fb,hfb⟩ : ∃ fb,w1.heap.size + 2 = fb:=⟨_,rfl⟩
   obtain ⟨mb,hmb⟩ : ∃ mb,w1.heap.size + 1 = mb:=⟨_,rfl⟩
   rw [hfb,hmb] at hF2
   rw [hmb] at hM2
   rw [hfb]
   have hmf : mb < fb:=by omega
   have hfl:=fileB_lt hF2
   have A2:=(hb2.block _ (by omega)).trans A1
   have hbw2:=hbw1.trans (hb2.mono hbw1.size)
   have hwf : w.heap.size + 1 < fb:=by omega
   clear HBG hb2 hbw1 A1 a0 a1 a2 a3 a4 a5 a6 hfb hmb
   obtain ⟨a0,a1,a2,a3,a4,a5,a6⟩:=seven_of A2
   have hI2 : ItemsAt S (d + 1) w2 (.slice ip (j + 1) ic) D.items:=HI.out.1.kept (fun b h => hbw2.block b (HS.out b h))
   obtain ⟨b,off,rfl⟩:=hI2.addr HI.out.2.2 j (by omega)
   obtain ⟨i,y1,t1,x1,y2,t2,x2,hi,hsb,_,e0,_⟩:=item_kid hI2 HI.out.2.2 j (by omega)
   have hml:=mostW_last HI.out.2.2 hi
   have hig:=(numsB_iff i).1 (HM.out.items.all i (List.mem_of_getElem? hi)).1
   obtain ⟨M,hM⟩ : ∃ M : Nat,i.num = (M : Int):=⟨i.num.toNat,by omega⟩
   have hMM : mostW D.items = M:=by rw [hml,hM];rfl
   rw [hM] at e0 hig
   have hM8 : M ≤ 8191:=by omega
   have hHM:=HM.out
   have HSL:=Lh (fun (W : World) (hW : Below w2.heap.size w2 W) => slots_in fb mb D.items.length M ps W hM8 (fileB_map (fileB_below hF2 hW)) (Nat.lt_of_lt_of_le hfl hW.size) (hM2.below hW) HM.out.zero)
   have HSO : Hid (SlotsOk (slotsW ps M)):=Lh (by
     have h1:=slots_ok hHM
     rw [hMM] at h1
     exact ⟨by rw [slotsW_len];omega,h1⟩)
   have HTL : Hid ((tableW (slotsW ps M) (sizeT D)).length ≤ 1000000000):=Lh (by have:=tableW_le hHM;rw [hMM] at this;exact this)
   have HSZ:=Lh (show sizeT D = putO D.trail wSize (.int ((M : Int) + 1)) by unfold sizeT;rw [hMM])
   rw [hMM] at HF
   have wM : IntKind.i64.wrap ((M : Int) + 1) = (M : Int) + 1:=IntWalk.i64_in _ (by omega)
   clear hI2 hi hsb hml hig hM hMM hHM hM2
   go_wp2_with fail
   refine (HSL.out _ (Below.refl _ _)).mono ?_
   rintro e w3 ⟨sp,sc,rfl,hsc,hrow,hb3⟩
   have HRW:=Lh hrow
   have hF3:=fileB_below hF2 hb3
   have A3:=(hb3.block _ (by omega)).trans A2
   have hbw3:=hbw2.trans (hb3.mono hbw2.size)
   have hz3:=hb3.size
   clear hrow hb3 A2 a0 a1 a2 a3 a4 a5 a6 e0 HSL hF2
   have HSET:=Lh (fun (W : World) (hW : Below w3.heap.size w3 W) => setS_in S (d + 1) W D.items D.trail p1 p2 n1 c1 n2 c2 (HO.out.kept (fun b h => (hbw3.trans (hW.mono hbw3.size)).block b (HS.out b h)) _) HM.out.trail ((M : Int) + 1) (by omega) (by omega) (fun b h => Nat.lt_of_lt_of_le (HS.out b h) (Nat.le_trans hbw3.size hW.size)))
   obtain ⟨P,hP⟩ : ∃ P,sizeT D = P:=⟨_,rfl⟩
   have HPK:=Lh (And.intro HM.out.chk (And.intro HM.out.kind HM.out.bulk))
   rw [hP] at HPK HTL HF HSZ
   rw [← HSZ.out] at HSET
   have HVI:=Lh (fun W => vint_in ((M : Int) + 1) W)
   obtain ⟨TB,hTB⟩ : ∃ TB,tableW (slotsW ps M) P = TB:=⟨_,rfl⟩
   have HTB:=Lh hTB
   rw [hTB] at HTL HF
   clear hP hTB
   go_upto_region 12 with fail
   go_cut [7,11] from 42 to 50 (fun s7 s11 wc => s7 = .int .i64 0 ∧ ∃ g r1 f1 r2 f2,s11 = .pointer (some ⟨g,0,none⟩) ∧ wc.heap[g]? = some (.cells #[.int .i64 P.kind,.int .i64 P.n,.int .i64 P.g,.string ⟨P.s.toArray⟩,.slice r1 P.keys.length f1,.slice r2 P.kids.length f2] 26 (0,0)) ∧
     ObjAt (fun b => b < wc.heap.size) 24 wc (objCells P.kind P.n P.g P.s (.slice r1 P.keys.length f1) (.slice r2 P.kids.length f2)) P ∧ Below w3.heap.size w3 wc)
   case first =>
     obtain ⟨k0,k1,k2,k3,k4,k5,k6⟩:=seven_of (show w3.drew.heap[w.heap.size]? = _ from A3)
     obtain ⟨l0,l1,l2,l3,l4,l5,l6⟩:=seven_of A3
     have HB5:=Lh (show Below w3.heap.size w3 w3.drew from (Below.refl _ _).drew)
     have nz3 : ¬ w.heap.size = w3.heap.size:=by omega
     have nz3' : ¬ w3.heap.size = w.heap.size:=by omega
     go_region_held3 (fun w' => w'.cell? ⟨w.heap.size,1,none⟩ = some (.int .i64 D.trail.kind) ∧ w'.cell? ⟨w.heap.size,2,none⟩ = some (.int .i64 D.trail.n) ∧ w'.cell? ⟨w.heap.size,3,none⟩ = some (.int .i64 D.trail.g) ∧ w'.cell? ⟨w.heap.size,4,none⟩ = some (.string ⟨D.trail.s.toArray⟩) ∧ w'.cell? ⟨w.heap.size,5,none⟩ = some (.slice p1 n1 c1) ∧ w'.cell? ⟨w.heap.size,6,none⟩ = some (.slice p2 n2 c2)) (go_keep)
       (first
       | (go_at_call 49;(with_reducible refine (HVI.out _).mono ?_);rintro e w6 ⟨rfl,hb⟩;(try have Z5:=Lh ((hb.block _ (by simp)).trans (heap_new_at _ _ _ rfl)));replace HB5 : Hid (Below w3.heap.size w3 w6):=Lh (by first | exact hb_step HB5.out hb HB5.out.size | exact hb_stepA HB5.out hb HB5.out.size);have hz6:=hb.size;(try simp at hz6);have nz6 : ¬ w.heap.size = w6.heap.size:=(by have:=HB5.out.size;omega);have nz6' : ¬ w6.heap.size = w.heap.size:=(by have:=HB5.out.size;omega);obtain ⟨k0,k1,k2,k3,k4,k5,k6⟩:=seven_of ((HB5.out.block _ (by omega)).trans A3);(try clear hb))
       | (go_at_call 48;(first | with_reducible refine (HSET.out _ HB5.out).mono ?_ | with_reducible refine (HSET.out _ (HB5.out.alloc HB5.out.size _)).mono ?_);rintro e w7 ⟨r1,f1,r2,f2,rfl,hO7,hb⟩;have HO7:=Lh hO7;(first | (have Z6:=Lh ((hb.block _ (by simp)).trans (heap_new_at _ _ _ rfl));obtain ⟨y0,y1,y2,y3,y4,y5,yf⟩:=six_of Z6.out) | (have Z6:=Lh ((hb.block _ (by omega)).trans Z5.out);obtain ⟨y0,y1,y2,y3,y4,y5,yf⟩:=six_of Z6.out) | skip);replace HB5 : Hid (Below w3.heap.size w3 w7):=Lh (by first | exact hb_step HB5.out hb HB5.out.size | exact hb_stepA HB5.out hb HB5.out.size);have hz7:=hb.size;(try simp at hz7);have nz7 : ¬ w.heap.size = w7.heap.size:=(by have:=HB5.out.size;omega);have nz7' : ¬ w7.heap.size = w.heap.size:=(by have:=HB5.out.size;omega);obtain ⟨k0,k1,k2,k3,k4,k5,k6⟩:=seven_of ((HB5.out.block _ (by omega)).trans A3);clear hO7;(try clear hb)))
     all_goals go_wp2_with fail
     all_goals go_meet
     · exact ⟨rfl,_,r1,f1,r2,f2,rfl,heap_new_at _ _ _ rfl,HO7.out.grow (fun b _ h2 => ⟨by simp;omega,Below.heap_alloc _ _ _ h2⟩),HB5.out.alloc HB5.out.size _⟩
     · exact ⟨rfl,_,r1,f1,r2,f2,rfl,set_six Z6.out,HO7.out.grow (fun b h1 h2 => ⟨by simpa using h2,(set6_grown _ _ 0 1 2 3 4 5 _ _ _ _ _ _).block b h2 (by (try simp at h1);simp;omega)⟩),HB5.out.grown (set6_grown _ _ 0 1 2 3 4 5 _ _ _ _ _ _) HB5.out.size (fun k h => by simp at h;omega)⟩
     · exact ⟨rfl,_,r1,f1,r2,f2,rfl,set_six Z6.out,HO7.out.grow (fun b h1 h2 => ⟨by simpa using h2,(set6_grown _ _ 0 1 2 3 4 5 _ _ _ _ _ _).block b h2 (by (try simp at h1);simp;omega)⟩),HB5.out.grown (set6_grown _ _ 0 1 2 3 4 5 _ _ _ _ _ _) HB5.out.size (fun k h => by simp at h;omega)⟩
   case rest =>
     obtain ⟨w4,rfl⟩ : ∃ w4,w4 = wc:=⟨_,rfl⟩
     obtain ⟨rfl,g,r1,f1,r2,f2,rfl,G4,hO4,hb4⟩:=hcut
     obtain ⟨y0,y1,y2,y3,y4,y5,yf⟩:=six_of G4
     have hF4:=fileB_below hF3 hb4
     have hbw4:=hbw3.trans (hb4.mono hbw3.size)
     have hz4:=hb4.size
     have HTT:=ttext_in (fun b => b < w4.heap.size) 24 0 P.kind P.n P.g (-1) (-1) 0 P.s r1 r2 sp P.keys.length f1 P.kids.length f2 sc (slotsW ps M) P w4 (by rw [slotsW_len];exact HRW.out.arg.below hb4) HSO.out (by rw [slotsW_len];omega) (by rw [slotsW_len];exact hsc) hO4
       (okO_small _ _ (okO_of_check HPK.out.1 (by rw [HPK.out.2.1];decide))) (fun b h => h) HPK.out.1 HPK.out.2.1 HPK.out.2.1 (HTW.out.below hbw4) HPK.out.2.2
     rw [slotsW_len,HTB.out] at HTT
     have HTT2:=Lh HTT
     have hrl : r.length ≤ 1051000000:=HM.out.rlen
     have HTBL:=HTL.out
     have HR4:=Lh (row_kept HRW.out (fb:=fb) (by omega) (ok_below hb4))
     clear hO4 HTT G4 hb4 hF3 HSET HVI A3
     go_wp2_with fail
     refine (flen_in _ _ _ _ _ hF4 (by omega)).mono ?_
     rintro e w5 ⟨rfl,h5⟩
     obtain rfl:=h5.symm
     go_wp2_with fail
     refine HTT2.out.mono ?_
     rintro e w6 ⟨rfl,hb6⟩
     have hF6:=fileB_below hF4 hb6
     have hbw6:=hbw4.trans (hb6.mono hbw4.size)
     have hz6:=hb6.size
     have HR6:=Lh (row_kept HR4.out (fb:=fb) (by omega) (ok_below hb6))
     clear hb6 hF4 HTT2 y0 y1 y2 y3 y4 y5 yf HR4
     go_wp2_with fail
     refine (fstr_in fb fb mb r _ w6 hF6 (by show r.length + TB.toArray.size ≤ _;simp;omega) (by omega)).mono ?_
     rintro e w7 ⟨rfl,hF7,hb7,hk7⟩
     have hF7' : fileB w7 fb fb mb (r ++ TB):=hF7
     have HR7:=Lh (row_kept HR6.out (fb:=fb) (by omega) hk7)
     have hbw7:=hbw6.trans (hb7.mono (by omega))
     have hz7:=hb7.size
     clear hF6 hb7 hk7 HR6 hF7
     have hal : (r ++ TB).length ≤ 2060000000:=by rw [List.length_append];omega
     have htl:=tailW_le (n:=r.length) (by omega)
     obtain ⟨TL,hTL⟩ : ∃ TL,tailW r.length = TL:=⟨_,rfl⟩
     have HTAIL:=Lh (fun (W : World) (hW : TabP W) => tail_in r.length (by omega) W hW)
     rw [hTL] at HTAIL htl
     rw [hTL] at HF
     clear hTL
     go_upto_region 20 with fail
     go_cut [] from 73 to 78 (fun wc => fileB wc fb fb mb (r ++ TB ++ TL) ∧ Below w.heap.size w7 wc ∧ rownS slE 48 wc w2.heap.size (.slice sp (M + 1) sc) (slotsW ps M) ∧ w7.heap.size ≤ wc.heap.size)
     case first =>
       have HB5:=Lh (show Below w7.heap.size w7 w7.drew from (Below.refl _ _).drew)
       go_region_held3 (fun _ => True) (trivial)
         (first
         | (go_at_call 53;(with_reducible refine (HTAIL.out _ (HTW.out.below (hbw7.trans (HB5.out.mono hbw7.size)))).mono ?_);rintro e w8 ⟨rfl,hb⟩;replace HB5 : Hid (Below w7.heap.size w7 w8):=Lh (hb_step HB5.out hb HB5.out.size);clear hb)
         | (go_at_call 52;(refine (fstr_in fb fb mb (r ++ TB) _ _ (fileB_below hF7' HB5.out) (by show (r ++ TB).length + TL.toArray.size ≤ _;simp;omega) (by have:=HB5.out.size;omega)).mono ?_);rintro e w9 ⟨rfl,hF9,hb9,hk9⟩;have HF9:=Lh hF9;have HR9:=Lh (row_kept (row_kept HR7.out (fb:=fb) (by omega) (ok_below HB5.out)) (fb:=fb) (by omega) hk9);have HB9:=Lh ((HB5.out.mono (show w.heap.size ≤ w7.heap.size from hbw7.size)).trans (hb9.mono (show w.heap.size ≤ fb by omega)));have hz9:=Nat.le_trans HB5.out.size hb9.size;clear hF9 hb9 hk9))
       all_goals go_wp2_with fail
       all_goals go_meet
       all_goals exact ⟨HF9.out,HB9.out,HR9.out,hz9⟩
     case rest =>
       obtain ⟨w10,rfl⟩ : ∃ w4,w4 = wc:=⟨_,rfl⟩
       obtain ⟨hF10,hb10,hr10,hz10⟩:=hcut
       have hbw10:=hbw7.trans hb10
       have hFL : (r ++ TB ++ TL).length ≤ 3000000000:=by rw [List.length_append];omega
       obtain ⟨FF,hFF⟩ : ∃ FF,r ++ TB ++ TL = FF:=⟨_,rfl⟩
       rw [← List.append_assoc,hFF] at HF
       rw [hFF] at hF10 hFL
       have hne : FF ≠ []:=by rw [← hFF];intro h;have:=HM.out.rne;simp at h;exact this h.1
       clear hFF hb10 HTAIL hF7' HR7 HTL htl
       go_wp2_with fail
       refine (flen_in _ _ _ _ _ hF10 (by omega)).mono ?_
       rintro e w11 ⟨rfl,h11⟩
       obtain rfl:=h11.symm
       by_cases hbig : 1048576 < FF.length
       · have gb : decide ((FF.length : Int) > 1048576) = true:=by simp;omega
         have HR:=Lh (show ∀ e w',(e = .returned (.tuple #[.string ⟨#[]⟩,.slice none 0 0,.int .i64 5]) ∧ Below w.heap.size w w') → MadeOut D w e w' from fun e w' h => by unfold MadeOut;rw [HF.out,if_pos hbig];exact h)
         clear hbig
         go_wp2
         refine bodyPost_ret (v:=.tuple #[.string ⟨#[]⟩,.slice none 0 0,.int .i64 5]) (by simp [results,Tryz.results21,go_sem]) rfl (HR.out _ _ ⟨rfl,hbw10⟩)
       · have gb : decide ((FF.length : Int) > 1048576) = false:=by simp;omega
         have HR:=Lh (show ∀ e w',(e = .returned (.tuple #[.string ⟨FF.toArray⟩,.slice sp (M + 1) sc,.int .i64 0]) ∧ RArg slE w' (.slice sp (M + 1) sc) (slotsW ps M) ∧ Below w.heap.size w w') → MadeOut D w e w' from fun e w' h => by
           unfold MadeOut;rw [HF.out,if_neg hbig]
           refine ⟨sp,sc,?_,?_,h.2.2⟩
           · rw [slotsW_len];exact h.1
           · rw [slotsW_len];exact h.2.1)
         clear hbig
         go_wp2_with fail
         refine (fget_in fb fb mb FF hne _ hF10).mono ?_
         rintro e w12 ⟨rfl,hb12,hk12⟩
         have hr12:=row_kept hr10 (fb:=fb) (by omega) hk12
         have hbw12:=hbw10.trans (hb12.mono (show w.heap.size ≤ fb by omega))
         go_wp2
         refine bodyPost_ret (v:=.tuple #[.string ⟨FF.toArray⟩,.slice sp (M + 1) sc,.int .i64 0]) (by simp [results,Tryz.results21,go_sem]) rfl (HR.out _ _ ⟨rfl,hr12.arg,hbw12⟩)
theorem file_of (k1 n1 g1 : Int) (q1 : ByteArray) (a1 a2 a3 : Option Addr) (b1 c1 b2 c2 b3 c3 : Nat) (s : ByteArray) (k : Int) (w : World) (H : ∀ W, Below w.heap.size w W → Calls Tryz.prog 21 #[.agg #[.slice a1 b1 c1, .int .i64 k1, .int .i64 n1, .int .i64 g1, .string q1, .slice a2 b2 c2, .slice a3 b3 c3]] W fun e w' => (∃ pl nl cl, e = .returned (.tuple #[.string s, .slice pl nl cl, .int .i64 k])) ∧ Below W.heap.size W w') :
   Calls Tryz.prog 8 #[.agg #[.slice a1 b1 c1,.int .i64 k1,.int .i64 n1,.int .i64 g1,.string q1,.slice a2 b2 c2,.slice a3 b3 c3]] w fun e w' => e = .returned (.tuple #[.string s,.int .i64 k]) ∧ Below w.heap.size w w':=by
 have HH:=Lh H
 clear H
 go_enter Tryz.func8,Tryz.ntmps8
 go_wp2_with fail
 refine (HH.out _ bel).mono ?_
 rintro e w1 ⟨⟨pl,nl,cl,rfl⟩,hb⟩
 go_wp2
 go_ret2
 exact ⟨rfl,((Below.refl _ w).alloc (Nat.le_refl _) _).trans (hb.mono (by simp))⟩
theorem places_of (Q : Value → World → Prop) (k1 n1 g1 : Int) (q1 : ByteArray) (a1 a2 a3 : Option Addr) (b1 c1 b2 c2 b3 c3 : Nat) (k : Int) (w : World) (H : ∀ W, Below w.heap.size w W → Calls Tryz.prog 21 #[.agg #[.slice a1 b1 c1, .int .i64 k1, .int .i64 n1, .int .i64 g1, .string q1, .slice a2 b2 c2, .slice a3 b3 c3]] W fun e w' => (∃ s pl nl cl, e = .returned (.tuple #[.string s, .slice pl nl cl, .int .i64 k]) ∧ Q (.slice pl nl cl) w') ∧ Below W.heap.size W w') :
   Calls Tryz.prog 10 #[.agg #[.slice a1 b1 c1,.int .i64 k1,.int .i64 n1,.int .i64 g1,.string q1,.slice a2 b2 c2,.slice a3 b3 c3]] w fun e w' => (∃ pl nl cl,e = .returned (.tuple #[.slice pl nl cl,.int .i64 k]) ∧ Q (.slice pl nl cl) w') ∧ Below w.heap.size w w':=by
 have HH:=Lh H
 clear H
 go_enter Tryz.func10,Tryz.ntmps10
 go_wp2_with fail
 refine (HH.out _ bel).mono ?_
 rintro e w1 ⟨⟨s,pl,nl,cl,rfl,hq⟩,hb⟩
 go_wp2
 go_ret2
 exact ⟨⟨pl,nl,cl,rfl,hq⟩,((Below.refl _ w).alloc (Nat.le_refl _) _).trans (hb.mono (by simp))⟩
def fileS (D : Dc) : ByteArray:=match fileW D with | .good (f,_) => ⟨f.toArray⟩ | .bad _ => ⟨#[]⟩
def fileE (D : Dc) : Int:=match fileW D with | .good _ => 0 | .bad k => k
def fileSl (D : Dc) : List Sl:=match fileW D with | .good (_,l) => l | .bad _ => []
theorem MadeOut.read {D : Dc} {W w' : World} {e : Ending} (h : MadeOut D W e w') : (∃ p c,e = .returned (.tuple #[.string (fileS D),.slice p (fileSl D).length c,.int .i64 (fileE D)]) ∧ RArg slE w' (.slice p (fileSl D).length c) (fileSl D)) ∧ Below W.heap.size W w':=by
 unfold MadeOut at h
 unfold fileS fileE fileSl
 cases hf : fileW D with
 | good z =>
   obtain ⟨f,l⟩:=z
   rw [hf] at h
   obtain ⟨p,c,h1,h2,h3⟩:=h
   exact ⟨⟨p,c,h1,h2⟩,h3⟩
 | bad k =>
   rw [hf] at h
   exact ⟨⟨none,0,h.1,RArg.nil _⟩,h.2⟩
theorem file_in (S : Nat → Prop) (d : Nat) (w : World) (cs : List Value) (D : Dc) (h : DocAt S d w cs D) (hS : ∀ b, S b → b < w.heap.size) (hfit : DocFit D) (hTW : TabP w) :
   Calls Tryz.prog 8 #[.agg cs.toArray] w fun e w' => e = .returned (.tuple #[.string (fileS D),.int .i64 (fileE D)]) ∧ Below w.heap.size w w':=by
 have HD:=fun (W : World) (hW : Below w.heap.size w W) => made_in S d W cs D (by
   obtain ⟨iv,tc,rfl,hI,hl,hsI,hO,hsT⟩:=h
   exact ⟨iv,tc,rfl,hI.kept (fun b h => hW.block b (hS b h)),hl,hsI,hO.kept (fun b h => hW.block b (hS b h)) _,hsT⟩) (fun b h => Nat.lt_of_lt_of_le (hS b h) hW.size) hfit (hTW.below hW)
 obtain ⟨iv,tc,rfl,hI,hl,hsI,hO,hsT⟩:=h
 obtain ⟨p1,n1,c1,p2,n2,c2,rfl⟩:=hO.shape
 obtain ⟨ip,ic,rfl⟩:=hI.slice
 exact file_of _ _ _ _ _ _ _ _ _ _ _ _ _ _ _ _ (fun W hW => (HD W hW).mono fun e w' hm => ⟨by obtain ⟨⟨p,c,h1,_⟩,_⟩:=hm.read;exact ⟨_,_,_,h1⟩,hm.read.2⟩)
theorem places_in (S : Nat → Prop) (d : Nat) (w : World) (cs : List Value) (D : Dc) (h : DocAt S d w cs D) (hS : ∀ b, S b → b < w.heap.size) (hfit : DocFit D) (hTW : TabP w) :
   Calls Tryz.prog 10 #[.agg cs.toArray] w fun e w' => (∃ p c,e = .returned (.tuple #[.slice p (fileSl D).length c,.int .i64 (fileE D)]) ∧ RArg slE w' (.slice p (fileSl D).length c) (fileSl D)) ∧ Below w.heap.size w w':=by
 have HD:=fun (W : World) (hW : Below w.heap.size w W) => made_in S d W cs D (by
   obtain ⟨iv,tc,rfl,hI,hl,hsI,hO,hsT⟩:=h
   exact ⟨iv,tc,rfl,hI.kept (fun b h => hW.block b (hS b h)),hl,hsI,hO.kept (fun b h => hW.block b (hS b h)) _,hsT⟩) (fun b h => Nat.lt_of_lt_of_le (hS b h) hW.size) hfit (hTW.below hW)
 obtain ⟨iv,tc,rfl,hI,hl,hsI,hO,hsT⟩:=h
 obtain ⟨p1,n1,c1,p2,n2,c2,rfl⟩:=hO.shape
 obtain ⟨ip,ic,rfl⟩:=hI.slice
 refine (places_of (fun v w' => ∃ p c,v = .slice p (fileSl D).length c ∧ RArg slE w' (.slice p (fileSl D).length c) (fileSl D)) _ _ _ _ _ _ _ _ _ _ _ _ _ (fileE D) _ (fun W hW => (HD W hW).mono fun e w' hm => ⟨by obtain ⟨⟨p,c,h1,h2⟩,_⟩:=hm.read;exact ⟨_,_,_,_,h1,_,_,rfl,h2⟩,hm.read.2⟩)).mono ?_
 rintro e w' ⟨⟨pl,nl,cl,rfl,p,c,h1,h2⟩,hb⟩
 cases h1
 exact ⟨⟨_,_,rfl,h2⟩,hb⟩
end Go.Proofs.YtfgdhcemidlnfaaGreatDoor
