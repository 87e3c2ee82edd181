/- Parts of the proof: WfR. -/
import Derived.Test.YtfgdhcemidlnfaaGreatDoorWql
import Derived.Test.YtfgdhcemidlnfaaGreatDoorWqm
import Derived.Test.YtfgdhcemidlnfaaGreatDoorWqc
import Derived.Lib.SlBytesConst
set_option linter.all false
set_option maxRecDepth 100000
set_option maxHeartbeats 8000000
namespace Go.Proofs.YtfgdhcemidlnfaaGreatDoor
open Go.RowKit Fo
theorem padW_lenR (k n : Nat) (h : (digU n).length ≤ k) : (padW k n).length = k:=by unfold padW;simp;omega
theorem rowW_len {k : Nat} {x : Sl} (h : SlotOk k x) : (rowW x).length ≤ 20:=by
 have ha:=h.a0;have hb:=h.a1;have hc:=h.b0;have hd:=h.b1
 have e1:=padW_lenR 10 x.a.toNat (digU_len _ 9 (by omega))
 have e2:=padW_lenR 5 x.b.toNat (digU_len _ 4 (by omega))
 unfold rowW
 simp only [List.length_append,List.length_cons,List.length_nil,e1,e2]
 omega
theorem rows_len {l : List Sl} (h : ∀ (k : Nat) (x : Sl),l[k]? = some x → SlotOk k x) : ∀ m : Nat,((l.take m).flatMap rowW).length ≤ 20 * m:=by
 intro m
 induction m with
 | zero => simp
 | succ m ih =>
   by_cases hm : m < l.length
   · rw [List.take_succ_eq_append_getElem hm,List.flatMap_append,List.length_append]
     have:=rowW_len (h m l[m] (List.getElem?_eq_getElem hm))
     simp only [List.flatMap_cons,List.flatMap_nil,List.append_nil]
     omega
   · rw [List.take_of_length_le (by omega)] at ih ⊢
     omega
theorem bsz1 (a : Array UInt8) : (⟨a⟩ : ByteArray).size = a.size:=rfl
theorem r18text (S : Nat → Prop) (d : Nat) (z k n g x1 x2 x3 : Int) (s : L) (p1 p2 p : Option Addr) (m1 c1 m2 c2 cp : Nat) (l : List Sl) (o : Ob) (w : World)
   (hv : RArg slE w (.slice p l.length cp) l) (hl : SlotsOk l) (hl1 : 0 < l.length) (ho : ObjAt S d w [.int .i64 k,.int .i64 n,.int .i64 g,.string ⟨s.toArray⟩,.slice p1 m1 c1,.slice p2 m2 c2] o) (hsm : smallO d o) (hS : ∀ b,S b → b < w.heap.size)
   (hc : checkB 24 o = 0) (hk : k = 7) (hok : o.kind = 7) (hbk : bulkO 24 o ≤ 2000000) :
   Calls Tryz.prog 28 #[.agg #[.int .i64 z,.slice p l.length cp,.int .i64 k,.int .i64 n,.int .i64 g,.string ⟨s.toArray⟩,.slice p1 m1 c1,.slice p2 m2 c2,.int .i64 x1,.int .i64 x2,.int .i64 x3]] w fun e w' =>
     e = .returned (.tuple #[.string ⟨(tableW l o).toArray⟩,.int .i64 0]) ∧ Below w.heap.size w w':=by
 have kept:=fun (W : World) (hW : Below w.heap.size w W) => ho.kept (fun b h => hW.block b (hS b h)) d
 have HCK:=Lh (fun (W : World) (hW : Below w.heap.size w W) => r18check (.slice p l.length cp) l W (hv.below hW) hl)
 have HCO:=Lh (fun (W : World) (hW : Below w.heap.size w W) => Check_in S d W _ o (kept W hW) hsm (fun b h => Nat.lt_of_lt_of_le (hS b h) hW.size) (check_in S 24 (by omega)))
 rw [hc] at HCO
 have HRN:=Lh (fun (W : World) (hW : Below w.heap.size w W) => r18runs (.slice p l.length cp) l W (hv.below hW) hl)
 have hwg : writeW o = .good (textW o):=by unfold writeW;rw [if_neg (by rw [hc];simp),if_neg (by rw [hok];decide)]
 have HWT:=Lh (fun (W : World) (hW : Below w.heap.size w W) => by
   have:=r7text S d W _ o (kept W hW) hsm (fun b h => Nat.lt_of_lt_of_le (hS b h) hW.size) (fun _ => hbk)
   rw [hwg] at this
   exact this)
 have hTL : (textW o).length ≤ 100000000:=by
   have:=textW_le (okO_of_check hc (by rw [hok];decide))
   omega
 subst hk
 obtain ⟨T,hTx⟩ : ∃ T,textW o = T:=⟨_,rfl⟩
 have HR:=Lh (show tableW l o = wXref ++ (48 :: 32 :: (digU l.length ++ 10 :: (l.flatMap rowW ++ (wTrailer ++ (T ++ [10]))))) by rw [← hTx];rfl)
 rw [hTx] at HWT hTL
 obtain ⟨R,hRx⟩ : ∃ R,tableW l o = R:=⟨_,rfl⟩
 rw [hRx] at HR ⊢
 obtain ⟨N,hN⟩ : ∃ N,l.length = N:=⟨_,rfl⟩
 have HV:=Lh (fun (W : World) (hW : Below w.heap.size w W) => hv.below hW)
 have HN:=Lh hN
 have HL:=Lh hl.2
 have hn1 : N ≤ 8192:=by have:=hl.1;omega
 have hn0 : 0 < N:=by omega
 rw [hN] at HV HCK HRN HR
 rw [hN]
 clear hv hN hl ho hsm hS hc kept hwg hTx hRx hbk hok hl1
 go_enter Tryz.func28,Tryz.ntmps28
 go_wp2_with fail
 obtain ⟨w0,hw0⟩ : ∃ w0,w.alloc (.cells #[.int .i64 z,.slice p N cp,.int .i64 7,.int .i64 n,.int .i64 g,.string ⟨s.toArray⟩,.slice p1 m1 c1,.slice p2 m2 c2,.int .i64 x1,.int .i64 x2,.int .i64 x3] 42) = w0:=⟨_,rfl⟩
 have hx0 : w0.heap[w.heap.size]? = some (.cells #[.int .i64 z,.slice p N cp,.int .i64 7,.int .i64 n,.int .i64 g,.string ⟨s.toArray⟩,.slice p1 m1 c1,.slice p2 m2 c2,.int .i64 x1,.int .i64 x2,.int .i64 x3] 42 (0,0)):=by rw [← hw0];exact heap_new_at _ _ _ rfl
 have hb0 : Below w.heap.size w w0:=by rw [← hw0];exact bel
 have hz0 : w0.heap.size = w.heap.size + 1:=by rw [← hw0];simp
 rw [hw0]
 clear hw0
 refine (HCK.out _ hb0).mono ?_
 rintro e w1 ⟨rfl,hb1⟩
 have hz1:=hb1.size
 have hbw1:=hb0.trans (hb1.mono hb0.size)
 have HX1:=Lh ((hb1.block _ (by omega)).trans hx0)
 clear hx0 hb1 HCK
 obtain ⟨z0,z1,z2,z3,z4,z5,z6,z7,z8,z9,z10,zf⟩:=eleven_of HX1.out
 obtain ⟨b,off,rfl,hblt,a0,a1,a2,a3⟩:=slot_at (HV.out w1 hbw1) 0 (by rw [HN.out];exact hn0)
 obtain ⟨hN0,hK0,hA00,hA01,hG00,hG01,hF0⟩:=HL.out 0 (l[0]'(by rw [HN.out];exact hn0)) (List.getElem?_eq_getElem (by rw [HN.out];exact hn0))
 obtain ⟨hF1,hF2⟩:=hF0 rfl
 rw [hN0] at a0
 rw [hF1] at a1
 rw [hF2] at a3
 simp only [Nat.zero_mul,Nat.add_zero] at a0 a1 a2 a3
 clear hN0 hK0 hA00 hA01 hG00 hG01 hF1 hF2 hF0
 go_wp2
 go_loop [5] (fun i => ∃ k : Nat,k ≤ N ∧ i = .int .i64 k) (fun i => N - (intOf i).toNat)
 case atStart => exact ⟨0,Nat.zero_le _,rfl⟩
 case round =>
   obtain ⟨k,hk,rfl⟩:=hrel
   by_cases hlk : k < N
   · have hk' : k < l.length:=by rw [HN.out];exact hlk
     obtain ⟨b',off',e',_,q0,q1,q2,q3⟩:=slot_at (HV.out w1 hbw1) k hk'
     cases e'
     have hKK:=(HL.out k l[k] (List.getElem?_eq_getElem hk')).kind
     obtain ⟨kd,hke⟩ : ∃ N,l[k].kind = N:=⟨_,rfl⟩
     rw [hke] at q1 hKK
     have d7 : (kd == 2) = false:=by simp;omega
     have v1 : (0 : Int) ≤ k:=by omega
     have v2 : (k : Int) < N:=by omega
     clear q0 q2 q3 hke hKK a0 a1 a2 a3
     go_wp2
     go_round
     case rel => exact ⟨k + 1,by omega,by go_num⟩
     case measure => simp [intOf];omega
   · have gN : decide (0 < (N : Int)) = true:=by simp;omega
     go_wp2_with fail
     refine (HCO.out _ hbw1).mono ?_
     rintro e w2 ⟨rfl,hb2⟩
     have hz2:=hb2.size
     have hbw2:=hbw1.trans (hb2.mono hbw1.size)
     have HX2:=Lh ((hb2.block _ (by omega)).trans HX1.out)
     clear z0 z1 z2 z3 z4 z5 z6 z7 z8 z9 z10 zf HX1 hb2 HCO a0 a1 a2 a3
     obtain ⟨z0,z1,z2,z3,z4,z5,z6,z7,z8,z9,z10,zf⟩:=eleven_of HX2.out
     have kc:=fun (w : World) (C : Array Value) (n c : Nat) => Lib.run_convert_bytes_const (P:=Tryz.prog) w 98 5 C n c Tryz.underlying98 Tryz.underlying5
     go_upto_region 17 with fail
     have hb23 : Below w2.heap.size w2 (w2.alloc (.cells #[.int .u8 120,.int .u8 114,.int .u8 101,.int .u8 102,.int .u8 10] 5 (5,6))):=(Below.refl _ w2).alloc (Nat.le_refl _) _
     have ho3:=heap_alloc_new w2 (.cells #[.int .u8 120,.int .u8 114,.int .u8 101,.int .u8 102,.int .u8 10] 5 (5,6))
     obtain ⟨w3,hw3⟩ : ∃ w3,w2.alloc (.cells #[.int .u8 120,.int .u8 114,.int .u8 101,.int .u8 102,.int .u8 10] 5 (5,6)) = w3:=⟨_,rfl⟩
     rw [hw3] at hb23 ho3 ⊢
     clear hw3
     obtain ⟨G2,hG2⟩ : ∃ G2,w2.heap.size = G2:=⟨_,rfl⟩
     rw [hG2] at ho3
     have hz3:=hb23.size
     have hbw3:=hbw2.trans (hb23.mono hbw2.size)
     have HX3:=Lh ((hb23.block _ (by omega)).trans HX2.out)
     clear z0 z1 z2 z3 z4 z5 z6 z7 z8 z9 z10 zf HX2 hb23
     obtain ⟨z0,z1,z2,z3,z4,z5,z6,z7,z8,z9,z10,zf⟩:=eleven_of HX3.out
     go_wp2_with fail
     refine (HRN.out _ hbw3).mono ?_
     rintro e w4 ⟨r,rfl,hr,hb4⟩
     have hz4:=hb4.size
     have hbw4:=hbw3.trans (hb4.mono hbw3.size)
     have HX4:=Lh ((hb4.block _ (by omega)).trans HX3.out)
     have ho4:=(hb4.block _ (lt_of_block ho3)).trans ho3
     have hG2l:=lt_of_block ho4
     obtain ⟨h0,_⟩ | ⟨_,gr,cr,cur,rfl,hgr,hgh,e0,e1⟩:=hr
     · omega
     have HG:=Lh (And.intro hgh (And.intro e0 e1))
     have hgrl:=lt_of_block hgh
     clear z0 z1 z2 z3 z4 z5 z6 z7 z8 z9 z10 zf HX3 hb4 HRN ho3 hgh e0 e1
     have HD0:=Lh (fun W => show Calls Tryz.prog 66 #[.int .i64 0] W (fun e w' => e = .returned (.string ⟨#[48]⟩) ∧ Below W.heap.size W w') from by
       have:=r18digits 0 (by decide) W
       rw [show digU 0 = [48] by unfold digU;rfl] at this;exact this)
     have HDN:=Lh (fun W => r18digits N (by omega) W)
     obtain ⟨D,hD⟩ : ∃ D,digU N = D:=⟨_,rfl⟩
     have hDl : D.length ≤ 20:=by rw [← hD];exact Nat.le_trans (digU_len N 10 (Nat.lt_of_le_of_lt hn1 (by decide))) (by decide)
     rw [hD] at HDN HR
     clear hD
     go_wp2
     have HO4:=Lh (show w4.heap[G2]? = some (.cells (([120,114,101,102,10] : L).map fun c => Value.int .u8 c.toNat).toArray 5 (5,6)) from ho4)
     have HGB:=Lh (And.intro hgrl hG2l)
     clear ho4
     go_loopw [7,8,10] (fun sv kv iv wr => Below w4.heap.size w4 wr ∧ ((iv = .int .i64 0 ∧ kv = .int .i64 0 ∧ sv = .slice (some ⟨G2,0,none⟩) 5 5 ∧ w4 = wr) ∨ (iv = .int .i64 1 ∧ ownB wr w4.heap.size sv ([120,114,101,102,10] ++ (48 :: 32 :: (D ++ 10 :: l.flatMap rowW)))))) (fun _ _ iv _ => 1 - (intOf iv).toNat)
     case atStart => exact ⟨Below.refl _ _,.inl ⟨rfl,rfl,rfl,rfl⟩⟩
     case round =>
       obtain ⟨hbr,⟨rfl,rfl,rfl,rfl⟩ | ⟨rfl,hown⟩⟩:=hrel
       · have q0 : w4.cell? ⟨gr,0,none⟩ = some (.int .i64 0):=by simp [World.cell?,HG.out.1,HG.out.2.1]
         have q1 : w4.cell? ⟨gr,1,none⟩ = some (.int .i64 N):=by simp [World.cell?,HG.out.1,HG.out.2.2]
         have HB5:=Lh (Below.refl w4.heap.size w4)
         have g1 : ¬ 9223372036854775807 < 2 + D.length:=by omega
         have g2 : ¬ 9223372036854775807 < 2 + D.length + 1:=by omega
         go_upto_region 21 with fail
         go_region_held3 (fun w' => w'.cell? ⟨gr,0,none⟩ = some (.int .i64 0) ∧ w'.cell? ⟨gr,1,none⟩ = some (.int .i64 N)) (go_keep)
           (first
             | (go_at_call 66;go_must ((first | (with_reducible refine (HD0.out _).mono ?_) | (with_reducible refine (HDN.out _).mono ?_));rintro e w5 ⟨rfl,hb⟩;(have HB5n:=Lh (HB5.out.trans (Below.trans (by repeat' (first | exact Below.refl _ _ | refine Below.drew ?_ | refine Below.alloc ?_ ?_ _ | (show _ ≤ _;simp;done) | (show _ ≤ _;simp;omega) | omega)) (hb.mono (by first | exact HB5.out.size | (have:=HB5.out.size;omega) | (simp;done) | (have:=HB5.out.size;simp;omega))))));clear HB5;have HB5:=HB5n;clear HB5n hb;have q0:=(World.cell?_of_block (a:=⟨gr,0,none⟩) (HB5.out.block gr HGB.out.1)).trans (show w4.cell? ⟨gr,0,none⟩ = some (.int .i64 0) by simp [World.cell?,HG.out.1,HG.out.2.1]);have q1:=(World.cell?_of_block (a:=⟨gr,1,none⟩) (HB5.out.block gr HGB.out.1)).trans (show w4.cell? ⟨gr,1,none⟩ = some (.int .i64 N) by simp [World.cell?,HG.out.1,HG.out.2.2])))
             | ((refine rappendGT rfl _ _ rfl w4.heap.size G2 5 [120,114,101,102,10] (5,6) _ ((((HB5.out.trans (by repeat' (first | exact Below.refl _ _ | refine Below.drew ?_ | refine Below.alloc ?_ ?_ _ | (show _ ≤ _;simp;done) | (show _ ≤ _;simp;omega) | omega)) : Below w4.heap.size w4 _)).block _ HGB.out.2).trans HO4.out) rfl rfl rfl (by simp only [ByteArray.size_append,bsz1,List.size_toArray,List.length_cons,List.length_nil];omega) (by simp only [ByteArray.size_append,bsz1,List.size_toArray,List.length_cons,List.length_nil];omega) (by first | exact HB5.out.size | (have:=HB5.out.size;omega) | (simp;done) | (have:=HB5.out.size;simp;omega)) ?_);intro v6 w6 hown6 hb6;(have HW6:=Lh (And.intro hown6 (HB5.out.trans (Below.trans (by repeat' (first | exact Below.refl _ _ | refine Below.drew ?_ | refine Below.alloc ?_ ?_ _ | (show _ ≤ _;simp;done) | (show _ ≤ _;simp;omega) | omega)) hb6))));clear hown6 hb6;have q0:=(World.cell?_of_block (a:=⟨gr,0,none⟩) (HW6.out.2.block gr HGB.out.1)).trans (show w4.cell? ⟨gr,0,none⟩ = some (.int .i64 0) by simp [World.cell?,HG.out.1,HG.out.2.1]);have q1:=(World.cell?_of_block (a:=⟨gr,1,none⟩) (HW6.out.2.block gr HGB.out.1)).trans (show w4.cell? ⟨gr,1,none⟩ = some (.int .i64 N) by simp [World.cell?,HG.out.1,HG.out.2.2])))
         have hown6:=HW6.out.1
         have hb6:=HW6.out.2
         simp only [ByteArray.data_append,Array.toList_append,List.append_assoc,List.cons_append,List.nil_append] at hown6
         obtain ⟨pre,hpre⟩ : ∃ pre : L,120 :: 114 :: 101 :: 102 :: 10 :: 48 :: 32 :: (D ++ [10]) = pre:=⟨_,rfl⟩
         rw [hpre] at hown6
         have hpl : pre.length ≤ 40:=by rw [← hpre];simp;omega
         have HPRE:=Lh hpre
         have hz6:=hb6.size
         clear q0 q1 hpre HW6 HB5 HD0 HDN g1 g2
         go_wp2
         go_loopw [7,8,11] (fun sv kv jv wq => ∃ k : Nat,k ≤ N ∧ kv = .int .i64 k ∧ jv = .int .i64 k ∧ Below w4.heap.size w4 wq ∧ Hid (ownB wq w4.heap.size sv (pre ++ (l.take k).flatMap rowW))) (fun _ _ jv _ => N - (intOf jv).toNat)
         case atStart => exact ⟨0,Nat.zero_le _,rfl,rfl,hb6,Lh (by simpa using hown6)⟩
         case round =>
           clear hown6 hb6 hz6
           obtain ⟨k,hk,rfl,rfl,hbq,HBL⟩:=hrel
           have hzq:=hbq.size
           have c1:=(World.cell?_of_block (a:=⟨gr,1,none⟩) (hbq.block gr HGB.out.1)).trans (show w4.cell? ⟨gr,1,none⟩ = some (.int .i64 N) by simp [World.cell?,HG.out.1,HG.out.2.2])
           have HXQ:=Lh ((hbq.block _ (by omega)).trans HX4.out)
           obtain ⟨y0,y1,y2,y3,y4,y5,y6,y7,y8,y9,y10,yf⟩:=eleven_of HXQ.out
           by_cases hlk : k < N
           · have hk' : k < l.length:=by rw [HN.out];exact hlk
             have hv1 : (0 : Int) ≤ k:=by omega
             have hv2 : (k : Int) < N:=by omega
             obtain ⟨b',off',e',hblt,a0,a1,a2,a3⟩:=slot_at (HV.out wr (hbw4.trans (hbq.mono hbw4.size))) k hk'
             cases e'
             obtain ⟨_,hK,hA0,hA1,hG0,hG1,_⟩:=HL.out k l[k] (List.getElem?_eq_getElem hk')
             have htk : (l.take (k + 1)).flatMap rowW = (l.take k).flatMap rowW ++ rowW l[k]:=by
               rw [List.take_succ_eq_append_getElem hk',List.flatMap_append];simp
             have hrl:=rows_len HL.out k
             obtain ⟨M,hMe⟩ : ∃ N,l[k].num = N:=⟨_,rfl⟩
             obtain ⟨kd,hke⟩ : ∃ N,l[k].kind = N:=⟨_,rfl⟩
             obtain ⟨a,hae⟩ : ∃ N,l[k].a = N:=⟨_,rfl⟩
             obtain ⟨gg,hge⟩ : ∃ N,l[k].b = N:=⟨_,rfl⟩
             have hrow : rowW l[k] = padW 10 a.toNat ++ 32 :: (padW 5 gg.toNat ++ [32,if kd = 1 then 110 else 102,32,10]):=by unfold rowW;rw [hae,hge,hke]
             rw [hke] at a1 hK
             rw [hae] at a2 hA0 hA1
             rw [hge] at a3 hG0 hG1
             rw [hrow] at htk
             clear hrow hMe hke hae hge a0
             obtain ⟨A,rfl⟩:=Int.eq_ofNat_of_zero_le hA0
             obtain ⟨G,rfl⟩:=Int.eq_ofNat_of_zero_le hG0
             simp only [Int.toNat_natCast] at htk
             have HP1:=Lh (show ∀ W,Calls Tryz.prog 67 #[.int .i64 (A : Int),.int .i64 10] W fun e w' => e = .returned (.string ⟨(padW 10 A).toArray⟩) ∧ Below W.heap.size W w' from fun W => r18pad A 10 (by omega) (by decide) W)
             have HP2:=Lh (show ∀ W,Calls Tryz.prog 67 #[.int .i64 (G : Int),.int .i64 5] W fun e w' => e = .returned (.string ⟨(padW 5 G).toArray⟩) ∧ Below W.heap.size W w' from fun W => r18pad G 5 (by omega) (by decide) W)
             have e1:=padW_lenR 10 A (digU_len _ 9 (by omega))
             have e2:=padW_lenR 5 G (digU_len _ 4 (by omega))
             obtain ⟨P1,hP1⟩ : ∃ P,padW 10 A = P:=⟨_,rfl⟩
             obtain ⟨P2,hP2⟩ : ∃ P,padW 5 G = P:=⟨_,rfl⟩
             rw [hP1] at HP1 htk e1
             rw [hP2] at HP2 htk e2
             obtain ⟨acc,hacc⟩ : ∃ acc,(l.take k).flatMap rowW = acc:=⟨_,rfl⟩
             rw [hacc] at hrl HBL htk
             clear hacc
             have HTK:=Lh htk
             have HQ:=Lh (And.intro y1 (And.intro a2 a3))
             have HB5:=Lh (Below.refl wr.heap.size wr)
             have HZQ:=Lh hzq
             have g1 : ¬ 9223372036854775807 < P1.length + 1:=by omega
             have g2 : ¬ 9223372036854775807 < P1.length + 1 + P2.length:=by omega
             have g3 : ¬ 9223372036854775807 < P1.length + 1 + P2.length + 4:=by omega
             clear htk hP1 hP2 hA0 hA1 hG0 hG1
             by_cases hk1 : kd = 1
             · subst hk1
               rw [if_pos rfl] at HTK
               have d1 : (1 == 0) = false:=rfl
               go_upto_region 28 with fail
               go_region_held3 (fun w' => w'.cell? ⟨w.heap.size,1,none⟩ = some (.slice (some ⟨b,off,none⟩) N cp) ∧ w'.cell? ⟨b,off + k * 4 + 2,none⟩ = some (.int .i64 A) ∧ w'.cell? ⟨b,off + k * 4 + 3,none⟩ = some (.int .i64 G)) (go_keep)
                 (first
                   | (go_at_call 67;go_must ((first | (with_reducible refine (HP1.out _).mono ?_) | (with_reducible refine (HP2.out _).mono ?_));rintro e w5 ⟨rfl,hb⟩;(have HB5n:=Lh (HB5.out.trans (Below.trans (by repeat' (first | exact Below.refl _ _ | refine Below.drew ?_ | refine Below.alloc ?_ ?_ _ | (show _ ≤ _;simp;done) | (show _ ≤ _;simp;omega) | omega)) (hb.mono (by first | exact HB5.out.size | (have:=HB5.out.size;omega) | (simp;done) | (have:=HB5.out.size;simp;omega))))));clear HB5;have HB5:=HB5n;clear HB5n hb;have y1:=(World.cell?_of_block (a:=⟨w.heap.size,1,none⟩) (HB5.out.block w.heap.size (by omega))).trans HQ.out.1;have a2:=(World.cell?_of_block (a:=⟨b,off + k * 4 + 2,none⟩) (HB5.out.block b (by omega))).trans HQ.out.2.1;have a3:=(World.cell?_of_block (a:=⟨b,off + k * 4 + 3,none⟩) (HB5.out.block b (by omega))).trans HQ.out.2.2))
                   | ((refine rappendST rfl _ _ rfl w4.heap.size _ _ _ (ownB_below HBL.out (HB5.out.trans (by repeat' (first | exact Below.refl _ _ | refine Below.drew ?_ | refine Below.alloc ?_ ?_ _ | (show _ ≤ _;simp;done) | (show _ ≤ _;simp;omega) | omega)))) rfl rfl (by simp only [ByteArray.size_append,bsz1,List.size_toArray,List.length_append,List.length_cons,List.length_nil];omega) (by have:=HB5.out.size;(try simp);omega) ?_);intro v6 w6 hown6 hb6;(have HW6:=Lh (And.intro hown6 ((HB5.out.mono HZQ.out).trans (Below.trans (by repeat' (first | exact Below.refl _ _ | refine Below.drew ?_ | refine Below.alloc ?_ ?_ _ | (show _ ≤ _;simp;done) | (show _ ≤ _;simp;omega) | omega)) hb6))));clear hown6 hb6;have y1:=(World.cell?_of_block (a:=⟨w.heap.size,1,none⟩) (HW6.out.2.block w.heap.size (by omega))).trans HQ.out.1;have a2:=(World.cell?_of_block (a:=⟨b,off + k * 4 + 2,none⟩) (HW6.out.2.block b (by omega))).trans HQ.out.2.1;have a3:=(World.cell?_of_block (a:=⟨b,off + k * 4 + 3,none⟩) (HW6.out.2.block b (by omega))).trans HQ.out.2.2))
               have hown6:=HW6.out.1
               have hb6:=HW6.out.2
               simp only [ByteArray.data_append,Array.toList_append,List.append_assoc,List.cons_append,List.nil_append] at hown6
               go_wp2
               go_roundw
               case rel => exact ⟨k + 1,by omega,by go_num,by go_num,hbq.trans hb6,Lh (by rw [HTK.out];simpa using hown6)⟩
               case measure => simp [intOf];omega
             · obtain rfl : kd = 0:=by omega
               rw [if_neg hk1] at HTK
               have d1 : (0 == 0) = true:=rfl
               go_upto_region 28 with fail
               go_region_held3 (fun w' => w'.cell? ⟨w.heap.size,1,none⟩ = some (.slice (some ⟨b,off,none⟩) N cp) ∧ w'.cell? ⟨b,off + k * 4 + 2,none⟩ = some (.int .i64 A) ∧ w'.cell? ⟨b,off + k * 4 + 3,none⟩ = some (.int .i64 G)) (go_keep)
                 (first
                   | (go_at_call 67;go_must ((first | (with_reducible refine (HP1.out _).mono ?_) | (with_reducible refine (HP2.out _).mono ?_));rintro e w5 ⟨rfl,hb⟩;(have HB5n:=Lh (HB5.out.trans (Below.trans (by repeat' (first | exact Below.refl _ _ | refine Below.drew ?_ | refine Below.alloc ?_ ?_ _ | (show _ ≤ _;simp;done) | (show _ ≤ _;simp;omega) | omega)) (hb.mono (by first | exact HB5.out.size | (have:=HB5.out.size;omega) | (simp;done) | (have:=HB5.out.size;simp;omega))))));clear HB5;have HB5:=HB5n;clear HB5n hb;have y1:=(World.cell?_of_block (a:=⟨w.heap.size,1,none⟩) (HB5.out.block w.heap.size (by omega))).trans HQ.out.1;have a2:=(World.cell?_of_block (a:=⟨b,off + k * 4 + 2,none⟩) (HB5.out.block b (by omega))).trans HQ.out.2.1;have a3:=(World.cell?_of_block (a:=⟨b,off + k * 4 + 3,none⟩) (HB5.out.block b (by omega))).trans HQ.out.2.2))
                   | ((refine rappendST rfl _ _ rfl w4.heap.size _ _ _ (ownB_below HBL.out (HB5.out.trans (by repeat' (first | exact Below.refl _ _ | refine Below.drew ?_ | refine Below.alloc ?_ ?_ _ | (show _ ≤ _;simp;done) | (show _ ≤ _;simp;omega) | omega)))) rfl rfl (by simp only [ByteArray.size_append,bsz1,List.size_toArray,List.length_append,List.length_cons,List.length_nil];omega) (by have:=HB5.out.size;(try simp);omega) ?_);intro v6 w6 hown6 hb6;(have HW6:=Lh (And.intro hown6 ((HB5.out.mono HZQ.out).trans (Below.trans (by repeat' (first | exact Below.refl _ _ | refine Below.drew ?_ | refine Below.alloc ?_ ?_ _ | (show _ ≤ _;simp;done) | (show _ ≤ _;simp;omega) | omega)) hb6))));clear hown6 hb6;have y1:=(World.cell?_of_block (a:=⟨w.heap.size,1,none⟩) (HW6.out.2.block w.heap.size (by omega))).trans HQ.out.1;have a2:=(World.cell?_of_block (a:=⟨b,off + k * 4 + 2,none⟩) (HW6.out.2.block b (by omega))).trans HQ.out.2.1;have a3:=(World.cell?_of_block (a:=⟨b,off + k * 4 + 3,none⟩) (HW6.out.2.block b (by omega))).trans HQ.out.2.2))
               have hown6:=HW6.out.1
               have hb6:=HW6.out.2
               simp only [ByteArray.data_append,Array.toList_append,List.append_assoc,List.cons_append,List.nil_append] at hown6
               go_wp2
               go_roundw
               case rel => exact ⟨k + 1,by omega,by go_num,by go_num,hbq.trans hb6,Lh (by rw [HTK.out];simpa using hown6)⟩
               case measure => simp [intOf];omega
           · have HALL:=Lh (show ownB wr w4.heap.size _ (pre ++ l.flatMap rowW) by have:=HBL.out;rw [List.take_of_length_le (by rw [HN.out];omega)] at this;exact this)
             clear HBL
             go_wp2
             go_roundw
             case rel => exact ⟨hbq,.inr ⟨by go_num,by have:=HALL.out;rw [← HPRE.out] at this;simpa using this⟩⟩
             case measure => simp [intOf]
       · have HXQ:=Lh ((hbr.block _ (by omega)).trans HX4.out)
         obtain ⟨y0,y1,y2,y3,y4,y5,y6,y7,y8,y9,y10,yf⟩:=eleven_of HXQ.out
         have hfl:=rows_len HL.out N
         rw [List.take_of_length_le (by rw [HN.out];omega)] at hfl
         obtain ⟨F,hF⟩ : ∃ F,l.flatMap rowW = F:=⟨_,rfl⟩
         rw [hF] at hown HR hfl
         clear hF
         have HOW:=Lh hown
         have hbwr:=hbw4.trans (hbr.mono hbw4.size)
         clear hown
         go_wp2_with fail
         refine (HWT.out _ hbwr).mono ?_
         rintro e w5 ⟨rfl,hb5⟩
         have hcv:=convB (ownB_below HOW.out hb5)
         obtain ⟨B,hB⟩ : ∃ B : L,[120,114,101,102,10] ++ (48 :: 32 :: (D ++ 10 :: F)) = B:=⟨_,rfl⟩
         have hBl : B.length ≤ 1000000:=by rw [← hB];simp;omega
         rw [hB] at hcv
         have HBE:=Lh hB
         have hTl:=hTL
         have g1 : ¬ 9223372036854775807 < B.length + 8:=by omega
         have g2 : ¬ 9223372036854775807 < B.length + 8 + T.length:=by omega
         have g3 : ¬ 9223372036854775807 < B.length + 8 + T.length + 1:=by omega
         have HE:=Lh (hbwr.trans (hb5.mono hbwr.size))
         clear hB
         go_wp2
         go_ret2
         exact ⟨by rw [HR.out];simp [ByteArray.mk_append_mk,wXref,wTrailer,← HBE.out],HE.out⟩
end Go.Proofs.YtfgdhcemidlnfaaGreatDoor
