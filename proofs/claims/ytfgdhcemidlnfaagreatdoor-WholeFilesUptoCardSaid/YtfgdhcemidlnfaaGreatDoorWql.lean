/- Parts of the proof: WfL WfM WfN WfO WfP WfQ RwB RkC. -/
import Derived.Test.YtfgdhcemidlnfaaGreatDoorWqk
import Derived.Test.YtfgdhcemidlnfaaGreatDoorWqh
import Derived.Test.YtfgdhcemidlnfaaGreatDoorWqd
import Derived.Lib.AppendStr
import Derived.Deep.RegionLaw
import Derived.Test.YtfgdhcemidlnfaaGreatDoorWqb
import Derived.Deep.DeepCutAuto
import Derived.Test.YtfgdhcemidlnfaaGreatDoorWqa
import Derived.Deep.QuietTactic
import Derived.BigQuiet
import Derived.Deep.RegionHeld3
import Derived.Test.YtfgdhcemidlnfaaGreatDoorWqc
set_option linter.all false
set_option maxRecDepth 100000
set_option maxHeartbeats 8000000
namespace Go.Proofs.YtfgdhcemidlnfaaGreatDoor
open Go.RowKit Fo
theorem r8check (S : Nat → Prop) (d : Nat) (num gen k n g : Int) (s : L) (p1 p2 : Option Addr) (m1 c1 m2 c2 : Nat) (o : Ob) (w : World)
   (h1 : 1 ≤ num) (h2 : num ≤ 8191) (h3 : 0 ≤ gen) (h4 : gen ≤ 65535) (hk : k ≠ 8)
   (ho : ObjAt S d w [.int .i64 k,.int .i64 n,.int .i64 g,.string ⟨s.toArray⟩,.slice p1 m1 c1,.slice p2 m2 c2] o) (hsm : smallO d o) (hS : ∀ b,S b → b < w.heap.size) (hc : checkB 24 o = 0) :
   Calls Tryz.prog 57 #[.agg #[.int .i64 num,.int .i64 gen,.int .i64 k,.int .i64 n,.int .i64 g,.string ⟨s.toArray⟩,.slice p1 m1 c1,.slice p2 m2 c2]] w fun e w' => e = .returned (.int .i64 0) ∧ Below w.heap.size w w':=by
 have HC:=Lh (fun (W : World) (hW : Below w.heap.size w W) => Check_in S d W _ o (ho.kept (fun b h => hW.block b (hS b h)) d) hsm (fun b h => Nat.lt_of_lt_of_le (hS b h) hW.size) (check_in S 24 (by omega)))
 rw [hc] at HC
 have X:=Lh (heap_new_at w (.cells #[.int .i64 num,.int .i64 gen,.int .i64 k,.int .i64 n,.int .i64 g,.string ⟨s.toArray⟩,.slice p1 m1 c1,.slice p2 m2 c2] 50) _ rfl)
 have d1 : decide (num < 1) = false:=decide_eq_false (by omega)
 have d2 : decide (8191 < num) = false:=decide_eq_false (by omega)
 have d3 : decide (gen < 0) = false:=decide_eq_false (by omega)
 have d4 : decide (65535 < gen) = false:=decide_eq_false (by omega)
 have d5 : (k == 8) = false:=by simpa using hk
 have hbw0 : Below w.heap.size w (w.alloc (.cells #[.int .i64 num,.int .i64 gen,.int .i64 k,.int .i64 n,.int .i64 g,.string ⟨s.toArray⟩,.slice p1 m1 c1,.slice p2 m2 c2] 50)):=(Below.refl _ w).alloc (Nat.le_refl _) _
 clear h1 h2 h3 h4 ho hsm hS hc hk
 go_enter Tryz.func57,Tryz.ntmps57
 go_wp2_with fail
 refine (HC.out _ hbw0).mono ?_
 rintro e w1 ⟨rfl,hb1⟩
 obtain ⟨z0,z1,z2,z3,z4,z5,z6,z7⟩:=eight_in ((hb1.block _ (by simp)).trans X.out)
 have hb01:=hbw0.trans (hb1.mono hbw0.size)
 go_wp2
 go_ret
 exact ⟨rfl,hb01⟩
theorem r5setL (S : Nat → Prop) (d : Nat) (w : World) (o : Ob) (p1 p2 : Option Addr) (n1 c1 n2 c2 : Nat) (h : ObjAt S d w (objCells o.kind o.n o.g o.s (.slice p1 n1 c1) (.slice p2 n2 c2)) o) (h9 : o.kind = 9) (hc : checkB 24 o = 0) (hcL : checkB 24 (lenO o) = 0) (hS : ∀ b, S b → b < w.heap.size) (hc1 : n1 ≤ c1) (hc2 : n2 ≤ c2) (hp1 : p1 = none → c1 = 0) (hp2 : p2 = none → c2 = 0) :
   Calls Tryz.prog 25 #[.agg #[.int .i64 7,.int .i64 0,.int .i64 0,.string ⟨#[]⟩,.slice p1 n1 c1,.slice p2 n2 c2],.string ⟨#[76,101,110,103,116,104]⟩,.agg #[.int .i64 2,.int .i64 (o.s.length : Nat),.int .i64 0,.string ⟨#[]⟩,.slice none 0 0,.slice none 0 0]] w fun e w' => ∃ q1 a1 m1 q2 a2 m2,e = .returned (.tuple #[.agg #[.int .i64 7,.int .i64 0,.int .i64 0,.string ⟨#[]⟩,.slice q1 a1 m1,.slice q2 a2 m2],.int .i64 0]) ∧
     ObjAt (fun b => w.heap.size + 3 ≤ b ∨ S b) 24 w' (objCells 7 0 0 [] (.slice q1 a1 m1) (.slice q2 a2 m2)) (lenO o) ∧ Below w.heap.size w w':=by
 have hd:=dict_chk hc h9
 have hok:=okO_of_check hd (show (7 : Int) ≠ 9 by decide)
 have hokL:=okO_of_check hcL (by rw [lenO_kind];decide)
 obtain ⟨hno,hlen,_,_⟩:=lenO_drop hc h9
 have:=r5set S 23 w (.mk 7 0 0 [] o.keys o.kids) (.int o.s.length) p1 p2 none none n1 c1 n2 c2 0 0 0 0 wLength (obj_at_ok 24 d (dict_at h) hok) (int_at S 22 w _) hS rfl hd hcL hno (show (2 : Int) ≠ 0 by decide) (okO_small _ _ hok) (okO_small _ _ hokL) (((checkB_iff 23 _).1 hd).many) hc1 hc2 hp1 hp2
 exact this
theorem r8text (S : Nat → Prop) (d : Nat) (num gen : Nat) (k n g : Int) (s : L) (p1 p2 : Option Addr) (m1 c1 m2 c2 : Nat) (o : Ob) (w : World)
   (h1 : 1 ≤ num) (h2 : num ≤ 8191) (h4 : gen ≤ 65535) (hk : k ≠ 8)
   (ho : ObjAt S (d + 1) w [.int .i64 k,.int .i64 n,.int .i64 g,.string ⟨s.toArray⟩,.slice p1 m1 c1,.slice p2 m2 c2] o) (hsm : smallO (d + 1) o) (hS : ∀ b,S b → b < w.heap.size) (hc : checkB 24 o = 0) (hkk : o.kind = k) (hbk : k ≠ 9 → bulkO 24 o ≤ 2000000) (hst : k = 9 → checkB 24 (lenO o) = 0 ∧ bulkO 24 (lenO o) ≤ 2000000 ∧ o.s.length ≤ 1000000000) (hno : o.n = n) (hgo : o.g = g) (hso : o.s = s) (hcap : m1 ≤ c1 ∧ m2 ≤ c2 ∧ (p1 = none → c1 = 0) ∧ (p2 = none → c2 = 0)) :
   Calls Tryz.prog 23 #[.agg #[.int .i64 (num : Nat),.int .i64 (gen : Nat),.int .i64 k,.int .i64 n,.int .i64 g,.string ⟨s.toArray⟩,.slice p1 m1 c1,.slice p2 m2 c2]] w fun e w' => ∃ t,itemW ⟨num,gen,o⟩ = .good t ∧ e = .returned (.tuple #[.string ⟨t.toArray⟩,.int .i64 0]) ∧ Below w.heap.size w w':=by
 have HCK:=Lh (fun (W : World) (hW : Below w.heap.size w W) => r8check S (d + 1) num gen k n g s p1 p2 m1 c1 m2 c2 o W (by omega) (by omega) (by omega) (by omega) hk (ho.kept (fun b h => hW.block b (hS b h)) (d + 1)) hsm (fun b h => Nat.lt_of_lt_of_le (hS b h) hW.size) hc)
 have HD1:=Lh (fun W => show Calls Tryz.prog 59 #[.int .i64 (num : Nat)] W (fun e w' => e = .returned (.string ⟨(digU num).toArray⟩) ∧ w' = W) from (r8digits num (by omega) W).mono fun _ _ h => ⟨h.1,h.2.symm⟩)
 have HD2:=Lh (fun W => show Calls Tryz.prog 59 #[.int .i64 (gen : Nat)] W (fun e w' => e = .returned (.string ⟨(digU gen).toArray⟩) ∧ w' = W) from (r8digits gen (by omega) W).mono fun _ _ h => ⟨h.1,h.2.symm⟩)
 have hdl1:=digU_len num 12 (by omega)
 have hdl2:=digU_len gen 12 (by omega)
 obtain ⟨DN,hDN⟩ : ∃ DN,digU num = DN:=⟨_,rfl⟩
 obtain ⟨DG,hDG⟩ : ∃ DG,digU gen = DG:=⟨_,rfl⟩
 have HHD:=Lh (show headI ⟨num,gen,o⟩ = DN ++ 32 :: (DG ++ wObjL) by
   unfold headI;rw [show digI (num : Int) = digU num by unfold digI;rw [if_neg (by omega)];rfl,show digI (gen : Int) = digU gen by unfold digI;rw [if_neg (by omega)];rfl,hDN,hDG])
 rw [hDN] at HD1 hdl1
 rw [hDG] at HD2 hdl2
 clear hDN hDG
 have hnums : numsB ⟨num,gen,o⟩ = true:=by unfold numsB;simp;omega
 by_cases h9 : k = 9
 · obtain ⟨hcL,hbL,hsL⟩:=hst h9
   obtain ⟨T,hT⟩ : ∃ T : L,textW (lenO o) = T:=⟨_,rfl⟩
   have hokL:=okO_of_check hcL (show (lenO o).kind ≠ 9 by rw [lenO_kind];decide)
   have hTl : T.length ≤ 1000000000:=by
     have h1:=textW_le hokL
     rw [hT] at h1
     omega
   have hsl : s.length ≤ 1000000000:=by rw [← hso];exact hsL
   have HIT:=Lh (show itemW ⟨num,gen,o⟩ = .good (DN ++ 32 :: (DG ++ wObjL) ++ (T ++ 10 :: (wStream ++ (s ++ (wEndstream ++ wEndobj))))) by
     have hsO : setO (.mk 7 0 0 [] o.keys o.kids) wLength (.int o.s.length) = .good (lenO o):=by
       unfold setO
       rw [if_neg (by simp [dictB,Ob.kind]),if_neg (by rw [dict_chk hc (hkk.trans h9)];simp),if_neg (by show ¬ checkB 24 (lenO o) ≠ 0;simp [hcL])]
       rfl
     unfold itemW
     rw [if_neg (by simp [hnums]),if_neg (by simp [hc]),if_neg (by rw [hkk];exact hk),if_pos (by rw [hkk];exact h9)]
     show (match setO (.mk 7 0 0 [] o.keys o.kids) wLength (.int o.s.length) with | .bad k => Res.bad k | .good d => .good _) = _
     rw [hsO]
     show Res.good (headI ⟨num,gen,o⟩ ++ (textW (lenO o) ++ 10 :: (wStream ++ (o.s ++ (wEndstream ++ wEndobj))))) = _
     rw [HHD.out,hT,hso])
   have HSET := Lib.hid (fun (W : World) (hW : Below w.heap.size w W) => show Calls Tryz.prog 25 #[.agg #[.int .i64 7, .int .i64 0, .int .i64 0, .string ⟨#[]⟩, .slice p1 m1 c1, .slice p2 m2 c2], .string ⟨#[76, 101, 110, 103, 116, 104]⟩, .agg #[.int .i64 2, .int .i64 (s.length : Nat), .int .i64 0, .string ⟨#[]⟩, .slice none 0 0, .slice none 0 0]] W (fun e w' => ∃ q1 a1 m1 q2 a2 m2, e = .returned (.tuple #[.agg #[.int .i64 7, .int .i64 0, .int .i64 0, .string ⟨#[]⟩, .slice q1 a1 m1, .slice q2 a2 m2], .int .i64 0]) ∧
       ObjAt (fun b => W.heap.size + 3 ≤ b ∨ S b) 24 w' (objCells 7 0 0 [] (.slice q1 a1 m1) (.slice q2 a2 m2)) (lenO o) ∧ Below W.heap.size W w') from by
     subst hkk hno hgo hso
     exact r5setL S (d + 1) W o p1 p2 m1 c1 m2 c2 (ho.kept (fun b h => hW.block b (hS b h)) (d + 1)) h9 hc hcL (fun b h => Nat.lt_of_lt_of_le (hS b h) hW.size) hcap.1 hcap.2.1 hcap.2.2.1 hcap.2.2.2)
   have HWT:=Lh (fun (V : Nat → Prop) (W : World) q1 a1 m1 q2 a2 m2 (h : ObjAt V 24 W (objCells 7 0 0 [] (.slice q1 a1 m1) (.slice q2 a2 m2)) (lenO o)) (hV : ∀ b,V b → b < W.heap.size) => show Calls Tryz.prog 58 #[.agg #[.int .i64 7,.int .i64 0,.int .i64 0,.string ⟨#[]⟩,.slice q1 a1 m1,.slice q2 a2 m2]] W (fun e w' => e = .returned (.tuple #[.string ⟨T.toArray⟩,.int .i64 0]) ∧ Below W.heap.size W w') from by
     have hw:=r7text V 24 W _ (lenO o) h (okO_small _ _ hokL) hV (fun _ => hbL)
     have e : writeW (lenO o) = .good T:=by unfold writeW;rw [if_neg (by rw [hcL];simp),if_neg (by rw [lenO_kind];decide),hT]
     rw [e] at hw
     exact hw)
   have k9 : (k == 9) = true:=by simpa using h9
   have HS:=Lh hS
   clear hT hnums hc hkk hbk hst hno hgo hso hcap ho hsm hS hk h1 h2 h4 hokL hcL hbL hsL h9
   go_enter Tryz.func23,Tryz.ntmps23
   go_wp2_with fail
   obtain ⟨w0,hw0⟩ : ∃ w0,w.alloc (.cells #[.int .i64 (num : Nat),.int .i64 (gen : Nat),.int .i64 k,.int .i64 n,.int .i64 g,.string ⟨s.toArray⟩,.slice p1 m1 c1,.slice p2 m2 c2] 50) = w0:=⟨_,rfl⟩
   have hx0 : w0.heap[w.heap.size]? = some (.cells #[.int .i64 (num : Nat),.int .i64 (gen : Nat),.int .i64 k,.int .i64 n,.int .i64 g,.string ⟨s.toArray⟩,.slice p1 m1 c1,.slice p2 m2 c2] 50 (0,0)):=by rw [← hw0];exact heap_new_at _ _ _ rfl
   have hb0 : Below w.heap.size w w0:=by rw [← hw0];exact bel
   have hz0 : w0.heap.size = w.heap.size + 1:=by rw [← hw0];simp
   rw [hw0]
   clear hw0
   refine (HCK.out _ hb0).mono ?_
   rintro e w1 ⟨rfl,hb1⟩
   have hz1:=hb1.size
   have hbw1:=hb0.trans (hb1.mono hb0.size)
   have hx1:=(hb1.block _ (by omega)).trans hx0
   clear hx0 hb1 HCK
   obtain ⟨z0,z1,z2,z3,z4,z5,z6,z7,zf⟩:=eightf hx1
   obtain ⟨C,hC⟩ : ∃ C,w1.heap.size = C:=⟨_,rfl⟩
   go_upto_region 7 with fail
   have hx2:=(Below.heap_alloc (w1.alloc (.cells #[.int .i64 k,.int .i64 n,.int .i64 g,.string ⟨s.toArray⟩,.slice p1 m1 c1,.slice p2 m2 c2] 26)) (.cells #[.int .i64 7,.int .i64 0,.int .i64 0,.string ⟨#[]⟩,.slice p1 m1 c1,.slice p2 m2 c2] 26) w.heap.size (by simp;omega)).trans ((Below.heap_alloc w1 (.cells #[.int .i64 k,.int .i64 n,.int .i64 g,.string ⟨s.toArray⟩,.slice p1 m1 c1,.slice p2 m2 c2] 26) w.heap.size (by omega)).trans hx1)
   have hy2:=(Below.heap_alloc (w1.alloc (.cells #[.int .i64 k,.int .i64 n,.int .i64 g,.string ⟨s.toArray⟩,.slice p1 m1 c1,.slice p2 m2 c2] 26)) (.cells #[.int .i64 7,.int .i64 0,.int .i64 0,.string ⟨#[]⟩,.slice p1 m1 c1,.slice p2 m2 c2] 26) C (by simp;omega)).trans (heap_new_at w1 (.cells #[.int .i64 k,.int .i64 n,.int .i64 g,.string ⟨s.toArray⟩,.slice p1 m1 c1,.slice p2 m2 c2] 26) _ hC.symm)
   have hd2:=heap_new_at (w1.alloc (.cells #[.int .i64 k,.int .i64 n,.int .i64 g,.string ⟨s.toArray⟩,.slice p1 m1 c1,.slice p2 m2 c2] 26)) (.cells #[.int .i64 7,.int .i64 0,.int .i64 0,.string ⟨#[]⟩,.slice p1 m1 c1,.slice p2 m2 c2] 26) (C + 1) (by simp;omega)
   have hbw2 : Below w.heap.size w ((w1.alloc (.cells #[.int .i64 k,.int .i64 n,.int .i64 g,.string ⟨s.toArray⟩,.slice p1 m1 c1,.slice p2 m2 c2] 26)).alloc (.cells #[.int .i64 7,.int .i64 0,.int .i64 0,.string ⟨#[]⟩,.slice p1 m1 c1,.slice p2 m2 c2] 26)):=(hbw1.alloc hbw1.size _).alloc (by simp;omega) _
   obtain ⟨w2,hw2⟩ : ∃ w2,(w1.alloc (.cells #[.int .i64 k,.int .i64 n,.int .i64 g,.string ⟨s.toArray⟩,.slice p1 m1 c1,.slice p2 m2 c2] 26)).alloc (.cells #[.int .i64 7,.int .i64 0,.int .i64 0,.string ⟨#[]⟩,.slice p1 m1 c1,.slice p2 m2 c2] 26) = w2:=⟨_,rfl⟩
   rw [hw2] at hx2 hy2 hbw2 hd2 ⊢
   have hz2 : w2.heap.size = C + 2:=by rw [← hw2];simp;omega
   clear hw2 hx1 z0 z1 z2 z3 z4 z5 z6 z7 zf
   have hwC : w.heap.size < C:=by omega
   clear hC hz1
   obtain ⟨y0,y1,y2,y3,y4,y5,yf⟩:=six_of hy2
   obtain ⟨x0,x1,x2,x3,x4,x5,xf⟩:=six_of hd2
   go_wp2_with fail
   refine (HSET.out _ hbw2).mono ?_
   rintro e w3 ⟨q1,a1,e1,q2,a2,e2,rfl,hL3,hb3⟩
   have hz3:=hb3.size
   have hbw3:=hbw2.trans (hb3.mono hbw2.size)
   have hx3:=(hb3.block _ (by omega)).trans hx2
   have hy3:=(hb3.block _ (by omega)).trans hy2
   have HL3:=Lh (hL3.weaken (S':=fun b => (C + 2 ≤ b ∧ b < w3.heap.size) ∨ S b) (fun b h hl => h.elim (fun h => .inl ⟨by omega,hl⟩) .inr) 24)
   clear y0 y1 y2 y3 y4 y5 yf x0 x1 x2 x3 x4 x5 xf hx2 hd2 hy2 hL3 hb3 HSET
   obtain ⟨y0,y1,y2,y3,y4,y5,yf⟩:=six_of hy3
   have l1 : 7 + s.length ≤ 9223372036854775807:=by omega
   have l2 : 7 + s.length + 11 ≤ 9223372036854775807:=by omega
   go_upto_region 10 with fail
   have hx4:=(Below.heap_alloc w3 (.cells #[.int .i64 7,.int .i64 0,.int .i64 0,.string ⟨#[]⟩,.slice q1 a1 e1,.slice q2 a2 e2] 26) w.heap.size (by omega)).trans hx3
   have hy4:=(Below.heap_alloc w3 (.cells #[.int .i64 7,.int .i64 0,.int .i64 0,.string ⟨#[]⟩,.slice q1 a1 e1,.slice q2 a2 e2] 26) C (by omega)).trans hy3
   have hl4:=heap_new_at w3 (.cells #[.int .i64 7,.int .i64 0,.int .i64 0,.string ⟨#[]⟩,.slice q1 a1 e1,.slice q2 a2 e2] 26) _ rfl
   have hbw4:=hbw3.alloc hbw3.size (.cells #[.int .i64 7,.int .i64 0,.int .i64 0,.string ⟨#[]⟩,.slice q1 a1 e1,.slice q2 a2 e2] 26)
   have hV3 : ∀ b,((C + 2 ≤ b ∧ b < w3.heap.size) ∨ S b) → b < w3.heap.size:=fun b h => h.elim (fun h => h.2) (fun h => by have:=HS.out b h;have:=hbw3.size;omega)
   have HL4:=Lh (HL3.out.kept (w':=w3.alloc (.cells #[.int .i64 7,.int .i64 0,.int .i64 0,.string ⟨#[]⟩,.slice q1 a1 e1,.slice q2 a2 e2] 26)) (fun b h => Below.heap_alloc _ _ _ (hV3 b h)) 24)
   have HV3:=Lh hV3
   clear hV3
   obtain ⟨w4,hw4⟩ : ∃ w4,w3.alloc (.cells #[.int .i64 7,.int .i64 0,.int .i64 0,.string ⟨#[]⟩,.slice q1 a1 e1,.slice q2 a2 e2] 26) = w4:=⟨_,rfl⟩
   rw [hw4] at hx4 hy4 hl4 hbw4 HL4 ⊢
   have hz4 : w4.heap.size = w3.heap.size + 1:=by rw [← hw4];simp
   clear hw4 hx3 hy3 y0 y1 y2 y3 y4 y5 yf
   obtain ⟨y0,y1,y2,y3,y4,y5,yf⟩:=six_of hy4
   obtain ⟨x0,x1,x2,x3,x4,x5,xf⟩:=six_of hl4
   go_upto_region 11 with fail
   obtain ⟨w5,hw5⟩ : ∃ w5,(((((w4.setCell ⟨C,0,none⟩ (.int .i64 7)).setCell ⟨C,1,none⟩ (.int .i64 0)).setCell ⟨C,2,none⟩ (.int .i64 0)).setCell ⟨C,3,none⟩ (.string ⟨#[]⟩)).setCell ⟨C,4,none⟩ (.slice q1 a1 e1)).setCell ⟨C,5,none⟩ (.slice q2 a2 e2) = w5:=⟨_,rfl⟩
   have hl5 : w5.heap[C]? = some (.cells #[.int .i64 7,.int .i64 0,.int .i64 0,.string ⟨#[]⟩,.slice q1 a1 e1,.slice q2 a2 e2] 26 (0,0)):=by
     rw [← hw5,set_any (set_any (set_any (set_any (set_any (set_any hy4)))))];rfl
   have hk5 : ∀ b,b ≠ C → w5.heap[b]? = w4.heap[b]?:=fun b hb => by
     rw [← hw5]
     iterate 6 (refine (Below.heap_setCell _ _ _ _ hb).trans ?_)
     rfl
   have hbw5 : Below w.heap.size w w5:=by
     rw [← hw5]
     iterate 6 (refine Below.setCell ?_ (by show _ ≤ C;omega) _)
     exact hbw4
   have hz5 : w5.heap.size = w4.heap.size:=by rw [← hw5];simp [World.setCell]
   have hx5:=(hk5 _ (by omega)).trans hx4
   have HL5:=HL4.out.kept (w':=w5) (fun b h => hk5 b (by rcases h with h | h;exact (by omega);have:=HS.out b h;omega)) 24
   have HW5:=Lh (HWT.out _ w5 q1 a1 e1 q2 a2 e2 HL5 (fun b h => by have:=HV3.out b h;omega))
   rw [hw5]
   clear hw5 hk5 HL5 hx4 hy4 hl4 hbw4 y0 y1 y2 y3 y4 y5 yf x0 x1 x2 x3 x4 x5 xf HWT
   obtain ⟨y0,y1,y2,y3,y4,y5,yf⟩:=six_of hl5
   go_wp2_with fail
   refine (HW5.out).mono ?_
   rintro e w6 ⟨rfl,hb6⟩
   have hbw6:=hbw5.trans (hb6.mono hbw5.size)
   have hx6:=(hb6.block _ (by omega)).trans hx5
   clear y0 y1 y2 y3 y4 y5 yf hx5 hl5 hb6 HW5
   obtain ⟨z0,z1,z2,z3,z4,z5,z6,z7,zf⟩:=eightf hx6
   obtain ⟨E,hE⟩ : ∃ E : L,wStream ++ (s ++ wEndstream) = E:=⟨_,rfl⟩
   have HEE:=Lh (show ((⟨#[115,116,114,101,97,109,10]⟩ ++ ⟨s.toArray⟩ : ByteArray) ++ ⟨#[10,101,110,100,115,116,114,101,97,109,10]⟩ : ByteArray) = ⟨E.toArray⟩ by
     rw [← hE]
     apply ByteArray.ext
     simp [wStream,wEndstream])
   have hEl : E.length ≤ 1000001000:=by rw [← hE];simp [wStream,wEndstream];omega
   rw [HEE.out]
   have HR:=Lh (show (((((((⟨DN.toArray⟩ ++ ⟨#[32]⟩ : ByteArray) ++ ⟨DG.toArray⟩ : ByteArray) ++ ⟨#[32,111,98,106,10]⟩ : ByteArray) ++ ⟨T.toArray⟩ : ByteArray) ++ ⟨#[10]⟩ : ByteArray) ++ ⟨E.toArray⟩ : ByteArray) ++ ⟨#[101,110,100,111,98,106,10]⟩ : ByteArray) = ⟨(DN ++ 32 :: (DG ++ wObjL) ++ (T ++ 10 :: (wStream ++ (s ++ (wEndstream ++ wEndobj))))).toArray⟩ by
     rw [← hE]
     apply ByteArray.ext
     simp [wObjL,wEndobj])
   have l1 : DN.length + 1 ≤ 9223372036854775807:=by omega
   have l2 : DN.length + 1 + DG.length ≤ 9223372036854775807:=by omega
   have l3 : DN.length + 1 + DG.length + 5 ≤ 9223372036854775807:=by omega
   have l4 : DN.length + 1 + DG.length + 5 + T.length ≤ 9223372036854775807:=by omega
   have l5 : DN.length + 1 + DG.length + 5 + T.length + 1 ≤ 9223372036854775807:=by omega
   have l6 : DN.length + 1 + DG.length + 5 + T.length + 1 + E.length ≤ 9223372036854775807:=by omega
   have l7 : DN.length + 1 + DG.length + 5 + T.length + 1 + E.length + 7 ≤ 9223372036854775807:=by omega
   clear hE hx6 hdl1 hdl2
   go_upto_region 14 with fail
   go_quiet ((first
     | (go_at_call 59;with_reducible exact Calls.quiet_of_same (HD1.out _))
     | (go_at_call 59;with_reducible exact Calls.quiet_of_same (HD2.out _))))
   go_wp2
   go_ret2
   exact ⟨_,HIT.out,by rw [HR.out];rfl,belowDrewN hbw6 _⟩
 · have hTT : textW o = textW o:=rfl
   obtain ⟨T,hT⟩ : ∃ T : L,textW o = T:=⟨_,rfl⟩
   have hTl : T.length ≤ 1000000000:=by
     have h1:=textW_le (okO_of_check hc (by rw [hkk];exact h9))
     rw [hT] at h1
     have:=hbk h9
     omega
   have HIT:=Lh (show itemW ⟨num,gen,o⟩ = .good (DN ++ 32 :: (DG ++ wObjL) ++ (T ++ 10 :: wEndobj)) by
     unfold itemW
     rw [if_neg (by simp [hnums]),if_neg (by simp [hc]),if_neg (by rw [hkk];exact hk),if_neg (by rw [hkk];exact h9),HHD.out,hT])
   have HWT:=Lh (fun (W : World) (hW : Below w.heap.size w W) => show Calls Tryz.prog 58 #[.agg #[.int .i64 k,.int .i64 n,.int .i64 g,.string ⟨s.toArray⟩,.slice p1 m1 c1,.slice p2 m2 c2]] W (fun e w' => e = .returned (.tuple #[.string ⟨T.toArray⟩,.int .i64 0]) ∧ Below W.heap.size W w') from by
     have hw:=r7text S (d + 1) W _ o (ho.kept (fun b h => hW.block b (hS b h)) (d + 1)) hsm (fun b h => Nat.lt_of_lt_of_le (hS b h) hW.size) (fun _ => hbk h9)
     have e : writeW o = .good T:=by unfold writeW;rw [if_neg (by rw [hc];simp),if_neg (by rw [hkk];exact h9),hT]
     rw [e] at hw
     exact hw)
   have k9 : (k == 9) = false:=by simpa using h9
   clear hT hTT hnums hc hkk hbk hst hno hgo hso hcap ho hsm hS h9 hk h1 h2 h4
   go_enter Tryz.func23,Tryz.ntmps23
   go_wp2_with fail
   obtain ⟨w0,hw0⟩ : ∃ w0,w.alloc (.cells #[.int .i64 (num : Nat),.int .i64 (gen : Nat),.int .i64 k,.int .i64 n,.int .i64 g,.string ⟨s.toArray⟩,.slice p1 m1 c1,.slice p2 m2 c2] 50) = w0:=⟨_,rfl⟩
   have hx0 : w0.heap[w.heap.size]? = some (.cells #[.int .i64 (num : Nat),.int .i64 (gen : Nat),.int .i64 k,.int .i64 n,.int .i64 g,.string ⟨s.toArray⟩,.slice p1 m1 c1,.slice p2 m2 c2] 50 (0,0)):=by rw [← hw0];exact heap_new_at _ _ _ rfl
   have hb0 : Below w.heap.size w w0:=by rw [← hw0];exact bel
   have hz0 : w0.heap.size = w.heap.size + 1:=by rw [← hw0];simp
   rw [hw0]
   clear hw0
   refine (HCK.out _ hb0).mono ?_
   rintro e w1 ⟨rfl,hb1⟩
   have hz1:=hb1.size
   have hbw1:=hb0.trans (hb1.mono hb0.size)
   have hx1:=(hb1.block _ (by omega)).trans hx0
   clear hx0 hb1 HCK
   obtain ⟨z0,z1,z2,z3,z4,z5,z6,z7,zf⟩:=eightf hx1
   go_upto_region 5 with fail
   have hx2:=(Below.heap_alloc w1 (.cells #[.int .i64 k,.int .i64 n,.int .i64 g,.string ⟨s.toArray⟩,.slice p1 m1 c1,.slice p2 m2 c2] 26) w.heap.size (by omega)).trans hx1
   have hy2:=heap_new_at w1 (.cells #[.int .i64 k,.int .i64 n,.int .i64 g,.string ⟨s.toArray⟩,.slice p1 m1 c1,.slice p2 m2 c2] 26) _ rfl
   have hbw2:=hbw1.alloc hbw1.size (.cells #[.int .i64 k,.int .i64 n,.int .i64 g,.string ⟨s.toArray⟩,.slice p1 m1 c1,.slice p2 m2 c2] 26)
   obtain ⟨w2,hw2⟩ : ∃ w2,w1.alloc (.cells #[.int .i64 k,.int .i64 n,.int .i64 g,.string ⟨s.toArray⟩,.slice p1 m1 c1,.slice p2 m2 c2] 26) = w2:=⟨_,rfl⟩
   rw [hw2] at hx2 hy2 hbw2 ⊢
   have hz2 : w2.heap.size = w1.heap.size + 1:=by rw [← hw2];simp
   have hz2' : w1.heap.size < w2.heap.size:=by omega
   clear hw2 hx1 z0 z1 z2 z3 z4 z5 z6 z7 zf hz2
   obtain ⟨y0,y1,y2,y3,y4,y5,yf⟩:=six_of hy2
   go_wp2_with fail
   refine (HWT.out _ hbw2).mono ?_
   rintro e w3 ⟨rfl,hb3⟩
   have hz3:=hb3.size
   have hbw3:=hbw2.trans (hb3.mono hbw2.size)
   have hx3:=(hb3.block _ (by omega)).trans hx2
   clear y0 y1 y2 y3 y4 y5 yf hy2 hx2 hb3 HWT hb0 hbw1 hbw2
   obtain ⟨z0,z1,z2,z3,z4,z5,z6,z7,zf⟩:=eightf hx3
   have HR:=Lh (show (((((((⟨DN.toArray⟩ ++ ⟨#[32]⟩ : ByteArray) ++ ⟨DG.toArray⟩ : ByteArray) ++ ⟨#[32,111,98,106,10]⟩ : ByteArray) ++ ⟨T.toArray⟩ : ByteArray) ++ ⟨#[10]⟩ : ByteArray) ++ ⟨#[]⟩ : ByteArray) ++ ⟨#[101,110,100,111,98,106,10]⟩ : ByteArray) = ⟨(DN ++ 32 :: (DG ++ wObjL) ++ (T ++ 10 :: wEndobj)).toArray⟩ by
     apply ByteArray.ext
     simp [wObjL,wEndobj])
   have l1 : DN.length + 1 ≤ 9223372036854775807:=by omega
   have l2 : DN.length + 1 + DG.length ≤ 9223372036854775807:=by omega
   have l3 : DN.length + 1 + DG.length + 5 ≤ 9223372036854775807:=by omega
   have l4 : DN.length + 1 + DG.length + 5 + T.length ≤ 9223372036854775807:=by omega
   have l5 : DN.length + 1 + DG.length + 5 + T.length + 1 ≤ 9223372036854775807:=by omega
   have l6 : DN.length + 1 + DG.length + 5 + T.length + 1 + 7 ≤ 9223372036854775807:=by omega
   clear hx3 hdl1 hdl2
   go_upto_region 14 with fail
   go_quiet ((first
     | (go_at_call 59;with_reducible exact Calls.quiet_of_same (HD1.out _))
     | (go_at_call 59;with_reducible exact Calls.quiet_of_same (HD2.out _))))
   go_wp2
   go_ret2
   exact ⟨_,HIT.out,by rw [HR.out];rfl,belowDrewN hbw3 _⟩
def GetF (w : World) (Y : Ob) (e : Ending) (w' : World) : Prop:=∃ y1 t1 u1 y2 t2 u2 b,e = .returned (.tuple #[.agg #[.int .i64 Y.kind,.int .i64 Y.n,.int .i64 Y.g,.string ⟨Y.s.toArray⟩,.slice y1 t1 u1,.slice y2 t2 u2],.bool b]) ∧ Below w.heap.size w w'
theorem r5get (S : Nat → Prop) (d : Nat) (w : World) (o : Ob) (p1 p2 : Option Addr) (n1 c1 n2 c2 : Nat) (key : L) (hO : ObjAt S (d + 1) w (objCells o.kind o.n o.g o.s (.slice p1 n1 c1) (.slice p2 n2 c2)) o) (hS : ∀ b, S b → b < w.heap.size) (hkl : o.kind = 7 ∨ o.kind = 9 → o.keys.length = o.kids.length) (hl : o.keys.length ≤ 1000000) :
   Calls Tryz.prog 72 #[.agg #[.int .i64 o.kind,.int .i64 o.n,.int .i64 o.g,.string ⟨o.s.toArray⟩,.slice p1 n1 c1,.slice p2 n2 c2],.string ⟨key.toArray⟩] w (GetF w ((getO o key).getD .zero)):=by
 by_cases hd : o.kind = 7 ∨ o.kind = 9
 · obtain ⟨kv,dv,hcs,hK0,hR0⟩:=hO
   have hR : RowAt S d w (.slice p2 n2 c2) o.kids:=by
     simp [objCells] at hcs;rw [hcs.2];exact hR0
   have hK : KeysAt S w (.slice p1 n1 c1) o.keys:=by
     simp [objCells] at hcs;rw [hcs.1];exact hK0
   clear hK0 hR0 hcs
   obtain ⟨m,hm⟩ : ∃ m,o.keys.length = m:=⟨_,rfl⟩
   obtain rfl : n1 = m:=by
     rcases hK with ⟨e,p,c,h1⟩ | ⟨b,off,c,h1,_⟩
     · cases h1;rw [e] at hm;simpa using hm
     · cases h1;exact hm
   have hkn : o.kids.length = n1:=by rw [← hkl hd];exact hm
   obtain rfl : n1 = n2:=by
     rcases hR with ⟨e,p,c,h1⟩ | ⟨b,off,c,h1,_⟩
     · cases h1;rw [e] at hkn;simpa using hkn.symm
     · cases h1;exact hkn.symm
   rw [hm] at hl
   have HK:=Lh (And.intro hK (And.intro hS hm))
   have HR:=Lh (And.intro hR hkn)
   clear hK hR hS hm hkn hkl
   rcases hd with h7 | h7
   · have HKK:=Lh h7
     rw [h7]
     clear h7
     have HZ:=Lh (show key ∉ o.keys → (getO o key).getD .zero = .zero from fun h => by rw [getO_no h];rfl)
     have HY:=Lh (show ∀ j (h1 : j < o.keys.length) (h2 : j < o.kids.length),o.keys[j] = key → (∀ i (hi : i < o.keys.length),i < j → o.keys[i] ≠ key) → (getO o key).getD .zero = o.kids[j] from fun j h1 h2 e hb => by
       unfold getO
       rw [if_pos (by unfold dictB;rw [HKK.out];rfl),idxS_some h1 e hb]
       simp [h2])
     go_enter Tryz.func72,Tryz.ntmps72
     go_wp2
     go_loopw [20] (fun i wr => ∃ k : Nat,k ≤ n1 ∧ i = .int .i64 k ∧ Below w.heap.size w wr ∧ w.heap.size + 2 ≤ wr.heap.size ∧ wr.heap[w.heap.size + 1]? = some (.cells #[.int .i64 0,.int .i64 0,.int .i64 0,.string ⟨#[]⟩,.slice none 0 0,.slice none 0 0] 26 (0,0)) ∧ wr.heap[w.heap.size]? = some (.cells #[.int .i64 7,.int .i64 o.n,.int .i64 o.g,.string ⟨o.s.toArray⟩,.slice p1 n1 c1,.slice p2 n1 c2] 26 (0,0)) ∧ Hid (∀ i (hi : i < o.keys.length),i < k → o.keys[i] ≠ key)) (fun i _ => n1 - (intOf i).toNat)
     case atStart => exact ⟨0,Nat.zero_le _,rfl,bel,by simp,heap_new_at _ _ _ (by simp),(Below.heap_alloc _ _ _ (by simp)).trans (heap_new_at _ _ _ rfl),Lh (fun i _ h => absurd h (Nat.not_lt_zero _))⟩
     case round =>
       obtain ⟨k,hk,rfl,hbr,hzr,hG,hG0,HBF⟩:=hrel
       by_cases hlk : k < n1
       · have hKw : KeysAt S wr (.slice p1 n1 c1) o.keys:=HK.out.1.kept (fun b h => hbr.block b (HK.out.2.1 b h))
         obtain ⟨b1,f1,rfl⟩ : ∃ b off,p1 = some ⟨b,off,none⟩:=by
           rcases hKw with ⟨e,_⟩ | ⟨b,off,c,e,_⟩
           · have:=HK.out.2.2;rw [e] at this;simp at this;omega
           · cases e;exact ⟨_,_,rfl⟩
         obtain ⟨s1,g1⟩:=key_at hKw HK.out.2.2 k hlk
         have hkl : k < o.keys.length:=by rw [HK.out.2.2];exact hlk
         have hgd : o.keys.getD k [] = o.keys[k]:=by simp [List.getD,hkl]
         rw [hgd] at g1
         cases hne : (o.keys[k] == key)
         · have HBN := Lib.hid (show ∀ i (hi : i < o.keys.length), i < k + 1 → o.keys[i] ≠ key from fun i hi h => by
             by_cases e : i = k
             · subst e;exact beq_eq_false_iff_ne.1 hne
             · exact HBF.out i hi (by omega))
           obtain ⟨x,hx⟩ : ∃ x,o.keys[k] = x:=⟨_,rfl⟩
           rw [hx] at g1 hne
           clear hKw hx hkl hgd
           go_wp2
           go_roundw
           case rel => exact ⟨k + 1,by omega,by go_num,hbr,hzr,hG,hG0,HBN⟩
           case measure => simp [intOf];omega
         · have hxe : o.keys[k] = key:=by simpa using hne
           have hRw : RowAt S d wr (.slice p2 n1 c2) o.kids:=HR.out.1.kept (fun b h => hbr.block b (HK.out.2.1 b h))
           obtain ⟨b2,f2,rfl⟩ : ∃ b off,p2 = some ⟨b,off,none⟩:=by
             rcases hRw with ⟨e,_⟩ | ⟨b,off,c,e,_⟩
             · have:=HR.out.2;rw [e] at this;simp at this;omega
             · cases e;exact ⟨_,_,rfl⟩
           obtain ⟨y,y1,t1,u1,y2,t2,u2,hy,hym,s2,O1,r0,r1,r2,r3,r4,r5⟩:=row_kid hRw HR.out.2 k hlk
           have hkd : k < o.kids.length:=by rw [HR.out.2];exact hlk
           have HYY:=Lh (show (getO o key).getD .zero = y by
             rw [HY.out k hkl hkd hxe HBF.out,← hy];simp [List.getD,hkd])
           rw [hxe] at g1
           have hkk : (key == key) = true:=by simp
           obtain ⟨b0,b1',b2',b3,b4,b5,bf⟩:=six_of hG
           obtain ⟨z0,z1,z2,z3,z4,z5,zf⟩:=six_of hG0
           have v2 : decide ((k : Int) ≥ (n1 : Int)) = false:=by simp;omega
           clear hKw hRw hy hym O1 hxe hgd hkl hkd hne
           go_wp2
           rw [HYY.out]
           refine bodyPost_ret (v:=.tuple #[.agg #[.int .i64 y.kind,.int .i64 y.n,.int .i64 y.g,.string ⟨y.s.toArray⟩,.slice y1 t1 u1,.slice y2 t2 u2],.bool true]) (by simp [results,Tryz.results72,go_sem,b0,b1',b2',b3,b4,b5,bf]) rfl ⟨y1,t1,u1,y2,t2,u2,true,rfl,bel⟩
       · obtain ⟨b0,b1,b2,b3,b4,b5,bf⟩:=six_of hG
         have HYY:=Lh (show (getO o key).getD .zero = .zero from HZ.out (fun h => by
           obtain ⟨i,hi,e⟩:=List.mem_iff_getElem.1 h
           exact HBF.out i hi (by have:=HK.out.2.2;omega) e))
         go_wp2
         rw [HYY.out]
         refine bodyPost_ret (v:=.tuple #[.agg #[.int .i64 0,.int .i64 0,.int .i64 0,.string ⟨#[]⟩,.slice none 0 0,.slice none 0 0],.bool false]) (by simp [results,Tryz.results72,go_sem,b0,b1,b2,b3,b4,b5,bf]) rfl ⟨none,0,0,none,0,0,false,rfl,bel⟩
   · have HKK:=Lh h7
     rw [h7]
     clear h7
     have HZ:=Lh (show key ∉ o.keys → (getO o key).getD .zero = .zero from fun h => by rw [getO_no h];rfl)
     have HY:=Lh (show ∀ j (h1 : j < o.keys.length) (h2 : j < o.kids.length),o.keys[j] = key → (∀ i (hi : i < o.keys.length),i < j → o.keys[i] ≠ key) → (getO o key).getD .zero = o.kids[j] from fun j h1 h2 e hb => by
       unfold getO
       rw [if_pos (by unfold dictB;rw [HKK.out];rfl),idxS_some h1 e hb]
       simp [h2])
     go_enter Tryz.func72,Tryz.ntmps72
     go_wp2
     go_loopw [20] (fun i wr => ∃ k : Nat,k ≤ n1 ∧ i = .int .i64 k ∧ Below w.heap.size w wr ∧ w.heap.size + 2 ≤ wr.heap.size ∧ wr.heap[w.heap.size + 1]? = some (.cells #[.int .i64 0,.int .i64 0,.int .i64 0,.string ⟨#[]⟩,.slice none 0 0,.slice none 0 0] 26 (0,0)) ∧ wr.heap[w.heap.size]? = some (.cells #[.int .i64 9,.int .i64 o.n,.int .i64 o.g,.string ⟨o.s.toArray⟩,.slice p1 n1 c1,.slice p2 n1 c2] 26 (0,0)) ∧ Hid (∀ i (hi : i < o.keys.length),i < k → o.keys[i] ≠ key)) (fun i _ => n1 - (intOf i).toNat)
     case atStart => exact ⟨0,Nat.zero_le _,rfl,bel,by simp,heap_new_at _ _ _ (by simp),(Below.heap_alloc _ _ _ (by simp)).trans (heap_new_at _ _ _ rfl),Lh (fun i _ h => absurd h (Nat.not_lt_zero _))⟩
     case round =>
       obtain ⟨k,hk,rfl,hbr,hzr,hG,hG0,HBF⟩:=hrel
       by_cases hlk : k < n1
       · have hKw : KeysAt S wr (.slice p1 n1 c1) o.keys:=HK.out.1.kept (fun b h => hbr.block b (HK.out.2.1 b h))
         obtain ⟨b1,f1,rfl⟩ : ∃ b off,p1 = some ⟨b,off,none⟩:=by
           rcases hKw with ⟨e,_⟩ | ⟨b,off,c,e,_⟩
           · have:=HK.out.2.2;rw [e] at this;simp at this;omega
           · cases e;exact ⟨_,_,rfl⟩
         obtain ⟨s1,g1⟩:=key_at hKw HK.out.2.2 k hlk
         have hkl : k < o.keys.length:=by rw [HK.out.2.2];exact hlk
         have hgd : o.keys.getD k [] = o.keys[k]:=by simp [List.getD,hkl]
         rw [hgd] at g1
         cases hne : (o.keys[k] == key)
         · have HBN := Lib.hid (show ∀ i (hi : i < o.keys.length), i < k + 1 → o.keys[i] ≠ key from fun i hi h => by
             by_cases e : i = k
             · subst e;exact beq_eq_false_iff_ne.1 hne
             · exact HBF.out i hi (by omega))
           obtain ⟨x,hx⟩ : ∃ x,o.keys[k] = x:=⟨_,rfl⟩
           rw [hx] at g1 hne
           clear hKw hx hkl hgd
           go_wp2
           go_roundw
           case rel => exact ⟨k + 1,by omega,by go_num,hbr,hzr,hG,hG0,HBN⟩
           case measure => simp [intOf];omega
         · have hxe : o.keys[k] = key:=by simpa using hne
           have hRw : RowAt S d wr (.slice p2 n1 c2) o.kids:=HR.out.1.kept (fun b h => hbr.block b (HK.out.2.1 b h))
           obtain ⟨b2,f2,rfl⟩ : ∃ b off,p2 = some ⟨b,off,none⟩:=by
             rcases hRw with ⟨e,_⟩ | ⟨b,off,c,e,_⟩
             · have:=HR.out.2;rw [e] at this;simp at this;omega
             · cases e;exact ⟨_,_,rfl⟩
           obtain ⟨y,y1,t1,u1,y2,t2,u2,hy,hym,s2,O1,r0,r1,r2,r3,r4,r5⟩:=row_kid hRw HR.out.2 k hlk
           have hkd : k < o.kids.length:=by rw [HR.out.2];exact hlk
           have HYY:=Lh (show (getO o key).getD .zero = y by
             rw [HY.out k hkl hkd hxe HBF.out,← hy];simp [List.getD,hkd])
           rw [hxe] at g1
           have hkk : (key == key) = true:=by simp
           obtain ⟨b0,b1',b2',b3,b4,b5,bf⟩:=six_of hG
           obtain ⟨z0,z1,z2,z3,z4,z5,zf⟩:=six_of hG0
           have v2 : decide ((k : Int) ≥ (n1 : Int)) = false:=by simp;omega
           clear hKw hRw hy hym O1 hxe hgd hkl hkd hne
           go_wp2
           rw [HYY.out]
           refine bodyPost_ret (v:=.tuple #[.agg #[.int .i64 y.kind,.int .i64 y.n,.int .i64 y.g,.string ⟨y.s.toArray⟩,.slice y1 t1 u1,.slice y2 t2 u2],.bool true]) (by simp [results,Tryz.results72,go_sem,b0,b1',b2',b3,b4,b5,bf]) rfl ⟨y1,t1,u1,y2,t2,u2,true,rfl,bel⟩
       · obtain ⟨b0,b1,b2,b3,b4,b5,bf⟩:=six_of hG
         have HYY:=Lh (show (getO o key).getD .zero = .zero from HZ.out (fun h => by
           obtain ⟨i,hi,e⟩:=List.mem_iff_getElem.1 h
           exact HBF.out i hi (by have:=HK.out.2.2;omega) e))
         go_wp2
         rw [HYY.out]
         refine bodyPost_ret (v:=.tuple #[.agg #[.int .i64 0,.int .i64 0,.int .i64 0,.string ⟨#[]⟩,.slice none 0 0,.slice none 0 0],.bool false]) (by simp [results,Tryz.results72,go_sem,b0,b1,b2,b3,b4,b5,bf]) rfl ⟨none,0,0,none,0,0,false,rfl,bel⟩
 · have e7 : (o.kind != 7) = true:=by simp;omega
   have e9 : (o.kind != 9) = true:=by simp;omega
   have HYY:=Lh (show (getO o key).getD .zero = .zero by unfold getO;rw [if_neg (by unfold dictB;simp;omega)];rfl)
   clear hd hO hS hkl hl
   go_enter Tryz.func72,Tryz.ntmps72
   go_wp2
   rw [HYY.out]
   refine bodyPost_ret (v:=.tuple #[.agg #[.int .i64 0,.int .i64 0,.int .i64 0,.string ⟨#[]⟩,.slice none 0 0,.slice none 0 0],.bool false]) (by simp [results,Tryz.results72,go_sem]) rfl ⟨none,0,0,none,0,0,false,rfl,bel⟩
theorem r19hold (S : Nat → Prop) (d : Nat) (w : World) (o : Ob) (p1 p2 : Option Addr) (n1 c1 n2 c2 : Nat) (hO : ObjAt S (d + 1) w (objCells o.kind o.n o.g o.s (.slice p1 n1 c1) (.slice p2 n2 c2)) o) (hS : ∀ b, S b → b < w.heap.size) (hkl : o.kind = 7 ∨ o.kind = 9 → o.keys.length = o.kids.length) (hl : o.keys.length ≤ 1000000) :
   Calls Tryz.prog 151 #[.agg #[.int .i64 o.kind,.int .i64 o.n,.int .i64 o.g,.string ⟨o.s.toArray⟩,.slice p1 n1 c1,.slice p2 n2 c2]] w fun e w' => e = .returned (.bool (holdB o)) ∧ Below w.heap.size w w':=by
 have HG:=Lh (fun (W : World) (hW : Below w.heap.size w W) => r5get S d W o p1 p2 n1 c1 n2 c2 wType (hO.kept (fun b h => hW.block b (hS b h)) (d + 1)) (fun b h => Nat.lt_of_lt_of_le (hS b h) hW.size) hkl hl)
 have HH:=Lh (show holdB o = (o.kind == 9 && (((getO o wType).getD .zero).kind == 5 && (((getO o wType).getD .zero).s == wObjStm || ((getO o wType).getD .zero).s == wXRef))) by
   unfold holdB
   cases getO o wType with
   | none => rfl
   | some t => rfl)
 obtain ⟨Y,hY⟩ : ∃ Y,(getO o wType).getD .zero = Y:=⟨_,rfl⟩
 obtain ⟨K,hK⟩ : ∃ K,o.kind = K:=⟨_,rfl⟩
 rw [hY,hK] at HH
 rw [hY,hK] at HG
 rw [hK]
 clear hO hS hkl hl hY hK
 cases e9 : (K == 9)
 · have HR:=Lh (show holdB o = false by rw [HH.out,e9];rfl)
   go_enter Tryz.func151,Tryz.ntmps151
   go_wp2_with fail
   refine (HG.out _ ((Below.refl _ w).alloc (Nat.le_refl _) _)).mono ?_
   rintro e w1 ⟨y1,t1,u1,y2,t2,u2,b,rfl,hb1⟩
   have hz1:=hb1.size
   simp at hz1
   have hx1:=(hb1.block w.heap.size (by simp)).trans (heap_new_at w (.cells #[.int .i64 K,.int .i64 o.n,.int .i64 o.g,.string ⟨o.s.toArray⟩,.slice p1 n1 c1,.slice p2 n2 c2] 26) _ rfl)
   go_upto_region 2 with fail
   have hbA:=((((Below.refl _ w).alloc (Nat.le_refl _) (.cells #[.int .i64 K,.int .i64 o.n,.int .i64 o.g,.string ⟨o.s.toArray⟩,.slice p1 n1 c1,.slice p2 n2 c2] 26)).trans (hb1.mono (by simp))).alloc (by omega) (.cells #[.int .i64 Y.kind,.int .i64 Y.n,.int .i64 Y.g,.string ⟨Y.s.toArray⟩,.slice y1 t1 u1,.slice y2 t2 u2] 26))
   have hx2:=(Below.heap_alloc w1 (.cells #[.int .i64 Y.kind,.int .i64 Y.n,.int .i64 Y.g,.string ⟨Y.s.toArray⟩,.slice y1 t1 u1,.slice y2 t2 u2] 26) w.heap.size (by omega)).trans hx1
   have hy2:=heap_new_at w1 (.cells #[.int .i64 Y.kind,.int .i64 Y.n,.int .i64 Y.g,.string ⟨Y.s.toArray⟩,.slice y1 t1 u1,.slice y2 t2 u2] 26) _ rfl
   obtain ⟨w2,hw2⟩ : ∃ w2,w1.alloc (.cells #[.int .i64 Y.kind,.int .i64 Y.n,.int .i64 Y.g,.string ⟨Y.s.toArray⟩,.slice y1 t1 u1,.slice y2 t2 u2] 26) = w2:=⟨_,rfl⟩
   rw [hw2] at hx2 hy2 hbA ⊢
   clear hw2 hx1 hb1
   obtain ⟨z0,z1,z2,z3,z4,z5,zf⟩:=six_of hx2
   obtain ⟨x0,x1,x2,x3,x4,x5,xf⟩:=six_of hy2
   clear hx2 hy2
   go_wp2
   go_ret
   exact ⟨ret_bool HR.out.symm,hbA⟩
 · cases e5 : (Y.kind == 5)
   · have HR:=Lh (show holdB o = false by rw [HH.out,e9,e5];rfl)
     go_enter Tryz.func151,Tryz.ntmps151
     go_wp2_with fail
     refine (HG.out _ ((Below.refl _ w).alloc (Nat.le_refl _) _)).mono ?_
     rintro e w1 ⟨y1,t1,u1,y2,t2,u2,b,rfl,hb1⟩
     have hz1:=hb1.size
     simp at hz1
     have hx1:=(hb1.block w.heap.size (by simp)).trans (heap_new_at w (.cells #[.int .i64 K,.int .i64 o.n,.int .i64 o.g,.string ⟨o.s.toArray⟩,.slice p1 n1 c1,.slice p2 n2 c2] 26) _ rfl)
     go_upto_region 2 with fail
     have hbA:=((((Below.refl _ w).alloc (Nat.le_refl _) (.cells #[.int .i64 K,.int .i64 o.n,.int .i64 o.g,.string ⟨o.s.toArray⟩,.slice p1 n1 c1,.slice p2 n2 c2] 26)).trans (hb1.mono (by simp))).alloc (by omega) (.cells #[.int .i64 Y.kind,.int .i64 Y.n,.int .i64 Y.g,.string ⟨Y.s.toArray⟩,.slice y1 t1 u1,.slice y2 t2 u2] 26))
     have hx2:=(Below.heap_alloc w1 (.cells #[.int .i64 Y.kind,.int .i64 Y.n,.int .i64 Y.g,.string ⟨Y.s.toArray⟩,.slice y1 t1 u1,.slice y2 t2 u2] 26) w.heap.size (by omega)).trans hx1
     have hy2:=heap_new_at w1 (.cells #[.int .i64 Y.kind,.int .i64 Y.n,.int .i64 Y.g,.string ⟨Y.s.toArray⟩,.slice y1 t1 u1,.slice y2 t2 u2] 26) _ rfl
     obtain ⟨w2,hw2⟩ : ∃ w2,w1.alloc (.cells #[.int .i64 Y.kind,.int .i64 Y.n,.int .i64 Y.g,.string ⟨Y.s.toArray⟩,.slice y1 t1 u1,.slice y2 t2 u2] 26) = w2:=⟨_,rfl⟩
     rw [hw2] at hx2 hy2 hbA ⊢
     clear hw2 hx1 hb1
     obtain ⟨z0,z1,z2,z3,z4,z5,zf⟩:=six_of hx2
     obtain ⟨x0,x1,x2,x3,x4,x5,xf⟩:=six_of hy2
     clear hx2 hy2
     go_wp2
     go_ret
     exact ⟨ret_bool HR.out.symm,hbA⟩
   · cases h1 : (Y.s == ([79,98,106,83,116,109] : L))
     · have HR:=Lh (show holdB o = (Y.s == ([88,82,101,102] : L)) by rw [HH.out,e9,e5,show (Y.s == wObjStm) = false from h1];simp [wXRef])
       go_enter Tryz.func151,Tryz.ntmps151
       go_wp2_with fail
       refine (HG.out _ ((Below.refl _ w).alloc (Nat.le_refl _) _)).mono ?_
       rintro e w1 ⟨y1,t1,u1,y2,t2,u2,b,rfl,hb1⟩
       have hz1:=hb1.size
       simp at hz1
       have hx1:=(hb1.block w.heap.size (by simp)).trans (heap_new_at w (.cells #[.int .i64 K,.int .i64 o.n,.int .i64 o.g,.string ⟨o.s.toArray⟩,.slice p1 n1 c1,.slice p2 n2 c2] 26) _ rfl)
       go_upto_region 2 with fail
       have hbA:=((((Below.refl _ w).alloc (Nat.le_refl _) (.cells #[.int .i64 K,.int .i64 o.n,.int .i64 o.g,.string ⟨o.s.toArray⟩,.slice p1 n1 c1,.slice p2 n2 c2] 26)).trans (hb1.mono (by simp))).alloc (by omega) (.cells #[.int .i64 Y.kind,.int .i64 Y.n,.int .i64 Y.g,.string ⟨Y.s.toArray⟩,.slice y1 t1 u1,.slice y2 t2 u2] 26))
       have hx2:=(Below.heap_alloc w1 (.cells #[.int .i64 Y.kind,.int .i64 Y.n,.int .i64 Y.g,.string ⟨Y.s.toArray⟩,.slice y1 t1 u1,.slice y2 t2 u2] 26) w.heap.size (by omega)).trans hx1
       have hy2:=heap_new_at w1 (.cells #[.int .i64 Y.kind,.int .i64 Y.n,.int .i64 Y.g,.string ⟨Y.s.toArray⟩,.slice y1 t1 u1,.slice y2 t2 u2] 26) _ rfl
       obtain ⟨w2,hw2⟩ : ∃ w2,w1.alloc (.cells #[.int .i64 Y.kind,.int .i64 Y.n,.int .i64 Y.g,.string ⟨Y.s.toArray⟩,.slice y1 t1 u1,.slice y2 t2 u2] 26) = w2:=⟨_,rfl⟩
       rw [hw2] at hx2 hy2 hbA ⊢
       clear hw2 hx1 hb1
       obtain ⟨z0,z1,z2,z3,z4,z5,zf⟩:=six_of hx2
       obtain ⟨x0,x1,x2,x3,x4,x5,xf⟩:=six_of hy2
       clear hx2 hy2
       go_wp2
       go_ret
       exact ⟨ret_bool HR.out.symm,hbA⟩
     · have HR:=Lh (show holdB o = true by rw [HH.out,e9,e5,show (Y.s == wObjStm) = true from h1];simp)
       go_enter Tryz.func151,Tryz.ntmps151
       go_wp2_with fail
       refine (HG.out _ ((Below.refl _ w).alloc (Nat.le_refl _) _)).mono ?_
       rintro e w1 ⟨y1,t1,u1,y2,t2,u2,b,rfl,hb1⟩
       have hz1:=hb1.size
       simp at hz1
       have hx1:=(hb1.block w.heap.size (by simp)).trans (heap_new_at w (.cells #[.int .i64 K,.int .i64 o.n,.int .i64 o.g,.string ⟨o.s.toArray⟩,.slice p1 n1 c1,.slice p2 n2 c2] 26) _ rfl)
       go_upto_region 2 with fail
       have hbA:=((((Below.refl _ w).alloc (Nat.le_refl _) (.cells #[.int .i64 K,.int .i64 o.n,.int .i64 o.g,.string ⟨o.s.toArray⟩,.slice p1 n1 c1,.slice p2 n2 c2] 26)).trans (hb1.mono (by simp))).alloc (by omega) (.cells #[.int .i64 Y.kind,.int .i64 Y.n,.int .i64 Y.g,.string ⟨Y.s.toArray⟩,.slice y1 t1 u1,.slice y2 t2 u2] 26))
       have hx2:=(Below.heap_alloc w1 (.cells #[.int .i64 Y.kind,.int .i64 Y.n,.int .i64 Y.g,.string ⟨Y.s.toArray⟩,.slice y1 t1 u1,.slice y2 t2 u2] 26) w.heap.size (by omega)).trans hx1
       have hy2:=heap_new_at w1 (.cells #[.int .i64 Y.kind,.int .i64 Y.n,.int .i64 Y.g,.string ⟨Y.s.toArray⟩,.slice y1 t1 u1,.slice y2 t2 u2] 26) _ rfl
       obtain ⟨w2,hw2⟩ : ∃ w2,w1.alloc (.cells #[.int .i64 Y.kind,.int .i64 Y.n,.int .i64 Y.g,.string ⟨Y.s.toArray⟩,.slice y1 t1 u1,.slice y2 t2 u2] 26) = w2:=⟨_,rfl⟩
       rw [hw2] at hx2 hy2 hbA ⊢
       clear hw2 hx1 hb1
       obtain ⟨z0,z1,z2,z3,z4,z5,zf⟩:=six_of hx2
       obtain ⟨x0,x1,x2,x3,x4,x5,xf⟩:=six_of hy2
       clear hx2 hy2
       go_wp2
       go_ret
       exact ⟨ret_bool HR.out.symm,hbA⟩
theorem chk_lens {o : Ob} (h : checkB 24 o = 0) : (o.kind = 7 ∨ o.kind = 9 → o.keys.length = o.kids.length) ∧ o.keys.length ≤ 1000000:=by
 have hk:=(checkB_iff 23 o).1 h
 refine ⟨fun h79 => ((keysB_iff o h79).1 hk.keys).len,?_⟩
 have:=keys_few hk
 omega
theorem r19obj (S : Nat → Prop) (d : Nat) (w : World) (i : It) (p1 p2 : Option Addr) (n1 c1 n2 c2 : Nat) (h : ObjAt S (d + 1) w (objCells i.ob.kind i.ob.n i.ob.g i.ob.s (.slice p1 n1 c1) (.slice p2 n2 c2)) i.ob) (hsm : smallO (d + 1) i.ob) (hS : ∀ b, S b → b < w.heap.size) :
   Calls Tryz.prog 94 #[.agg #[.int .i64 i.num,.int .i64 i.gen,.int .i64 i.ob.kind,.int .i64 i.ob.n,.int .i64 i.ob.g,.string ⟨i.ob.s.toArray⟩,.slice p1 n1 c1,.slice p2 n2 c2]] w fun e w' => e = .returned (.int .i64 (contB i.ob)) ∧ Below w.heap.size w w':=by
 have HC:=Lh (fun (W : World) (hW : Below w.heap.size w W) => Check_in S (d + 1) W _ i.ob (h.kept (fun b h => hW.block b (hS b h)) (d + 1)) hsm (fun b h => Nat.lt_of_lt_of_le (hS b h) hW.size) (check_in S 24 (by omega)))
 have HH:=Lh (fun (hc : checkB 24 i.ob = 0) (W : World) (hW : Below w.heap.size w W) => r19hold S d W i.ob p1 p2 n1 c1 n2 c2 (h.kept (fun b h => hW.block b (hS b h)) (d + 1)) (fun b h => Nat.lt_of_lt_of_le (hS b h) hW.size) (chk_lens hc).1 (chk_lens hc).2)
 unfold objCells at HC
 clear h hsm hS
 have HB:=Lh (show contB i.ob = if checkB 24 i.ob ≠ 0 then checkB 24 i.ob else if i.ob.kind = 8 ∨ holdB i.ob then 10 else 0 from rfl)
 obtain ⟨C,hC⟩ : ∃ C,checkB 24 i.ob = C:=⟨_,rfl⟩
 obtain ⟨K,hk0⟩ : ∃ K,i.ob.kind = K:=⟨_,rfl⟩
 rw [hC,hk0] at HB
 rw [hC,hk0] at HC
 rw [hC,hk0] at HH
 rw [hk0]
 clear hC hk0
 by_cases hC0 : C = 0
 · subst hC0
   have HB2:=Lh (show contB i.ob = if K = 8 ∨ holdB i.ob then 10 else 0 by rw [HB.out];simp)
   clear HB
   by_cases h8 : K = 8
   · have e8 : (K == 8) = true:=by simpa using h8
     have HR:=Lh (show contB i.ob = 10 by rw [HB2.out,h8];simp)
     clear h8 HB2
     go_enter Tryz.func94,Tryz.ntmps94
     go_wp2_with fail
     have hb0:=(Below.refl w.heap.size w).alloc (Nat.le_refl _) (.cells #[.int .i64 i.num,.int .i64 i.gen,.int .i64 K,.int .i64 i.ob.n,.int .i64 i.ob.g,.string ⟨i.ob.s.toArray⟩,.slice p1 n1 c1,.slice p2 n2 c2] 50)
     have hx0:=heap_new_at w (.cells #[.int .i64 i.num,.int .i64 i.gen,.int .i64 K,.int .i64 i.ob.n,.int .i64 i.ob.g,.string ⟨i.ob.s.toArray⟩,.slice p1 n1 c1,.slice p2 n2 c2] 50) _ rfl
     refine (HC.out _ hb0).mono ?_
     rintro e w1 ⟨rfl,hb1⟩
     have hx1:=(hb1.block w.heap.size (by simp)).trans hx0
     have hbw1:=hb0.trans (hb1.mono hb0.size)
     obtain ⟨z0,z1,z2,z3,z4,z5,z6,z7,zf⟩:=eightf hx1
     clear hx0 hx1 hb0 hb1
     go_wp2
     go_ret
     exact ⟨ret_int HR.out.symm,hbw1⟩
   · have e8 : (K == 8) = false:=by simpa using h8
     cases hh : holdB i.ob
     all_goals
       rw [hh] at HB2 HH
       have HR:=Lh HB2.out
       simp only [h8,false_or,Bool.false_eq_true,if_false,if_true] at HR
       have HH2:=Lh (HH.out rfl)
       clear h8 HB2 hh HH
       go_enter Tryz.func94,Tryz.ntmps94
       go_wp2_with fail
       have hb0:=(Below.refl w.heap.size w).alloc (Nat.le_refl _) (.cells #[.int .i64 i.num,.int .i64 i.gen,.int .i64 K,.int .i64 i.ob.n,.int .i64 i.ob.g,.string ⟨i.ob.s.toArray⟩,.slice p1 n1 c1,.slice p2 n2 c2] 50)
       have hx0:=heap_new_at w (.cells #[.int .i64 i.num,.int .i64 i.gen,.int .i64 K,.int .i64 i.ob.n,.int .i64 i.ob.g,.string ⟨i.ob.s.toArray⟩,.slice p1 n1 c1,.slice p2 n2 c2] 50) _ rfl
       refine (HC.out _ hb0).mono ?_
       rintro e w1 ⟨rfl,hb1⟩
       have hx1:=(hb1.block w.heap.size (by simp)).trans hx0
       have hbw1:=hb0.trans (hb1.mono hb0.size)
       obtain ⟨z0,z1,z2,z3,z4,z5,z6,z7,zf⟩:=eightf hx1
       clear hx0 hx1 hb0 hb1
       go_wp2_with fail
       refine (HH2.out _ hbw1).mono ?_
       rintro e w2 ⟨rfl,hb2⟩
       go_wp2
       go_ret
       exact ⟨ret_int HR.out.symm,hbw1.trans (hb2.mono hbw1.size)⟩
 · have HR:=Lh (show contB i.ob = C by rw [HB.out,if_pos hC0])
   have ec : (C != 0) = true:=by simpa using hC0
   clear hC0 HB HH
   go_enter Tryz.func94,Tryz.ntmps94
   go_wp2_with fail
   have hb0:=(Below.refl w.heap.size w).alloc (Nat.le_refl _) (.cells #[.int .i64 i.num,.int .i64 i.gen,.int .i64 K,.int .i64 i.ob.n,.int .i64 i.ob.g,.string ⟨i.ob.s.toArray⟩,.slice p1 n1 c1,.slice p2 n2 c2] 50)
   have hx0:=heap_new_at w (.cells #[.int .i64 i.num,.int .i64 i.gen,.int .i64 K,.int .i64 i.ob.n,.int .i64 i.ob.g,.string ⟨i.ob.s.toArray⟩,.slice p1 n1 c1,.slice p2 n2 c2] 50) _ rfl
   refine (HC.out _ hb0).mono ?_
   rintro e w1 ⟨rfl,hb1⟩
   have hx1:=(hb1.block w.heap.size (by simp)).trans hx0
   have hbw1:=hb0.trans (hb1.mono hb0.size)
   obtain ⟨z0,z1,z2,z3,z4,z5,z6,z7,zf⟩:=eightf hx1
   clear hx0 hx1 hb0 hb1
   go_wp2
   go_ret
   exact ⟨ret_int HR.out.symm,hbw1⟩
theorem r19items (S : Nat → Prop) (d : Nat) (v : Value) (l : List It) (w : World) (hv : ItemsAt S (d + 1) w v l) (hl : l.length ≤ 1000000) (hsm : ∀ i ∈ l, smallO (d + 1) i.ob) (hS : ∀ b, S b → b < w.heap.size) :
   Calls Tryz.prog 55 #[v] w fun e w' => e = .returned (.int .i64 (itemsB none l)) ∧ Below w.heap.size w w':=by
 obtain ⟨p,cp,rfl⟩:=hv.slice
 obtain ⟨n,hn⟩ : ∃ n,l.length = n:=⟨_,rfl⟩
 obtain ⟨C,hC⟩ : ∃ C,itemsB none l = C:=⟨_,rfl⟩
 have HV:=Lh hv
 rw [hn] at HV
 have HN:=Lh hn
 have HS:=Lh (And.intro hS hsm)
 have HC:=Lh (show itemsB (prevN l 0) (l.drop 0) = C from hC)
 rw [hn,hC]
 have hn1 : n ≤ 1000000:=by omega
 clear hv hn hS hl hC hsm
 go_enter Tryz.func55,Tryz.ntmps55
 go_wp2
 go_loopw [8] (fun i wr => ∃ k : Nat,k ≤ n ∧ i = .int .i64 k ∧ Below w.heap.size w wr ∧ Hid (itemsB (prevN l k) (l.drop k) = C)) (fun i _ => n - (intOf i).toNat)
 case atStart => exact ⟨0,Nat.zero_le _,rfl,Below.refl _ _,HC⟩
 case round =>
   obtain ⟨k,hk,rfl,hbr,HF⟩:=hrel
   have hzr:=hbr.size
   by_cases hlk : k < n
   · have hvr : ItemsAt S (d + 1) wr (.slice p n cp) l:=HV.out.kept (fun b h => hbr.block b (HS.out.1 b h))
     obtain ⟨b,off,rfl⟩:=hvr.addr HN.out k hlk
     obtain ⟨i,y1,t1,x1,y2,t2,x2,hi,hsb,O1,a0,a1,a2,a3,a4,a5,a6,a7⟩:=item_kid hvr HN.out k hlk
     have hblt : b < wr.heap.size:=Nat.lt_of_lt_of_le (HS.out.1 b hsb) hzr
     have hbne : ¬ b = wr.heap.size:=by omega
     have HI:=Lh hi
     have HCO:=Lh (fun (W : World) (hW : Below wr.heap.size wr W) => r19obj S d W i y1 y2 t1 x1 t2 x2 (O1.kept (fun b h => hW.block b (Nat.lt_of_lt_of_le (HS.out.1 b h) hzr)) (d + 1)) (HS.out.2 i (List.mem_of_getElem? hi)) (fun b h => Nat.lt_of_lt_of_le (HS.out.1 b h) (Nat.le_trans hzr hW.size)))
     have HIT:=Lh (show (if !numsB i then 2 else if notUp (prevN l k) i.num then 9 else if contB i.ob ≠ 0 then contB i.ob else itemsB (some i.num) (l.drop (k + 1))) = C by
       rw [← HF.out,← itemsB_cons]
       have hk' : k < l.length:=by rw [HN.out];exact hlk
       have he : l[k] = i:=by rw [List.getElem?_eq_getElem hk'] at hi;exact Option.some.inj hi
       rw [List.drop_eq_getElem_cons hk',he])
     cases k with
     | zero =>
       clear hvr hi hsb O1 HF
       simp only [Nat.zero_mul,Nat.add_zero] at a0 a1 a2 a3 a4 a5 a6 a7
       by_cases m1 : i.num < 1
       · skip
         have HR:=Lh (show C = 2 by
           have hn0 : numsB i = false:=by unfold numsB;simp;omega
           rw [← HIT.out,hn0];rfl)
         go_wp2
         go_ret
         exact ⟨ret_int HR.out.symm,bel⟩
       by_cases m2 : 8191 < i.num
       · skip
         have HR:=Lh (show C = 2 by
           have hn0 : numsB i = false:=by unfold numsB;simp;omega
           rw [← HIT.out,hn0];rfl)
         go_wp2
         go_ret
         exact ⟨ret_int HR.out.symm,bel⟩
       by_cases m3 : i.gen < 0
       · skip
         have HR:=Lh (show C = 2 by
           have hn0 : numsB i = false:=by unfold numsB;simp;omega
           rw [← HIT.out,hn0];rfl)
         go_wp2
         go_ret
         exact ⟨ret_int HR.out.symm,bel⟩
       by_cases m4 : 65535 < i.gen
       · skip
         have HR:=Lh (show C = 2 by
           have hn0 : numsB i = false:=by unfold numsB;simp;omega
           rw [← HIT.out,hn0];rfl)
         go_wp2
         go_ret
         exact ⟨ret_int HR.out.symm,bel⟩
       have HN0:=Lh (show numsB i = true by unfold numsB;simp;omega)
       go_upto_region 6 with fail
       obtain ⟨w1,hw1⟩ : ∃ w1,wr.alloc (.cells #[.int .i64 i.num,.int .i64 i.gen,.int .i64 i.ob.kind,.int .i64 i.ob.n,.int .i64 i.ob.g,.string ⟨i.ob.s.toArray⟩,.slice y1 t1 x1,.slice y2 t2 x2] 50) = w1:=⟨_,rfl⟩
       have hx1 : w1.heap[wr.heap.size]? = some (.cells #[.int .i64 i.num,.int .i64 i.gen,.int .i64 i.ob.kind,.int .i64 i.ob.n,.int .i64 i.ob.g,.string ⟨i.ob.s.toArray⟩,.slice y1 t1 x1,.slice y2 t2 x2] 50 (0,0)):=by rw [← hw1];exact heap_new_at wr _ _ rfl
       have hbz1 : Below wr.heap.size wr w1:=by rw [← hw1];exact (Below.refl _ wr).alloc (Nat.le_refl _) _
       have hbw1 : Below w.heap.size w w1:=hbr.trans (hbz1.mono hbr.size)
       rw [hw1]
       clear hw1 m1 m2 m3 m4
       obtain ⟨z0,z1,z2,z3,z4,z5,z6,z7,zf⟩:=eightf hx1
       clear hx1
       cases hup : notUp (prevN l 0) i.num
       rotate_left
       ·
         exact absurd hup (by simp [prevN,notUp])
       by_cases hct : contB i.ob = 0
       · have e0 : (contB i.ob != 0) = false:=by simpa using hct
         have HR:=Lh (show itemsB (some i.num) (l.drop (0 + 1)) = C by rw [← HIT.out,HN0.out,hup,hct];rfl)
         rw [hct] at HCO
         clear hct e0
         skip
         skip
         clear hup
         go_quiet (fail)
         go_wp2_with fail
         refine (HCO.out _ (belowDrewN hbz1 _)).mono ?_
         rintro e w2 ⟨rfl,hb2⟩
         go_wp2
         go_roundw
         case rel => exact ⟨0 + 1,by omega,by go_num,(belowDrewN hbw1 _).trans (hb2.mono hbw1.size),Lh (by rw [prevN_succ HI.out];exact HR.out)⟩
         case measure => simp [intOf];omega
       · have e0 : (contB i.ob != 0) = true:=by simpa using hct
         have HR:=Lh (show C = contB i.ob by rw [← HIT.out,HN0.out,hup,if_neg (by decide),if_neg (by decide),if_pos hct])
         clear hct
         skip
         skip
         clear hup
         go_quiet (fail)
         go_wp2_with fail
         refine (HCO.out _ (belowDrewN hbz1 _)).mono ?_
         rintro e w2 ⟨rfl,hb2⟩
         go_wp2
         go_ret
         exact ⟨ret_int HR.out.symm,(belowDrewN hbw1 _).trans (hb2.mono hbw1.size)⟩
     | succ j =>
       obtain ⟨q,_,_,_,_,_,_,hq,_,_,q0,_⟩:=item_kid hvr HN.out j (by omega)
       have HQ:=Lh hq
       have wj : IntKind.i64.wrap (j : Int) = j:=IntWalk.i64_in _ (by omega)
       have gj : decide (0 < (j : Int) + 1) = true:=by rw [decide_eq_true_eq];omega
       clear hvr hi hsb O1 HF hq
       by_cases m1 : i.num < 1
       · skip
         have HR:=Lh (show C = 2 by
           have hn0 : numsB i = false:=by unfold numsB;simp;omega
           rw [← HIT.out,hn0];rfl)
         go_wp2
         go_ret
         exact ⟨ret_int HR.out.symm,bel⟩
       by_cases m2 : 8191 < i.num
       · skip
         have HR:=Lh (show C = 2 by
           have hn0 : numsB i = false:=by unfold numsB;simp;omega
           rw [← HIT.out,hn0];rfl)
         go_wp2
         go_ret
         exact ⟨ret_int HR.out.symm,bel⟩
       by_cases m3 : i.gen < 0
       · skip
         have HR:=Lh (show C = 2 by
           have hn0 : numsB i = false:=by unfold numsB;simp;omega
           rw [← HIT.out,hn0];rfl)
         go_wp2
         go_ret
         exact ⟨ret_int HR.out.symm,bel⟩
       by_cases m4 : 65535 < i.gen
       · skip
         have HR:=Lh (show C = 2 by
           have hn0 : numsB i = false:=by unfold numsB;simp;omega
           rw [← HIT.out,hn0];rfl)
         go_wp2
         go_ret
         exact ⟨ret_int HR.out.symm,bel⟩
       have HN0:=Lh (show numsB i = true by unfold numsB;simp;omega)
       go_upto_region 6 with fail
       obtain ⟨w1,hw1⟩ : ∃ w1,wr.alloc (.cells #[.int .i64 i.num,.int .i64 i.gen,.int .i64 i.ob.kind,.int .i64 i.ob.n,.int .i64 i.ob.g,.string ⟨i.ob.s.toArray⟩,.slice y1 t1 x1,.slice y2 t2 x2] 50) = w1:=⟨_,rfl⟩
       have hx1 : w1.heap[wr.heap.size]? = some (.cells #[.int .i64 i.num,.int .i64 i.gen,.int .i64 i.ob.kind,.int .i64 i.ob.n,.int .i64 i.ob.g,.string ⟨i.ob.s.toArray⟩,.slice y1 t1 x1,.slice y2 t2 x2] 50 (0,0)):=by rw [← hw1];exact heap_new_at wr _ _ rfl
       have hbz1 : Below wr.heap.size wr w1:=by rw [← hw1];exact (Below.refl _ wr).alloc (Nat.le_refl _) _
       have hbw1 : Below w.heap.size w w1:=hbr.trans (hbz1.mono hbr.size)
       rw [hw1]
       clear hw1 m1 m2 m3 m4
       obtain ⟨z0,z1,z2,z3,z4,z5,z6,z7,zf⟩:=eightf hx1
       clear hx1
       cases hup : notUp (prevN l (j + 1)) i.num
       rotate_left
       ·
         have HR:=Lh (show C = 9 by rw [← HIT.out,HN0.out,hup];rfl)
         have pj : w1.cell? ⟨b,off + j * 8,none⟩ = some (.int .i64 q.num):=(World.cell?_of_block (a:=⟨b,off + j * 8,none⟩) (hbz1.block b hblt)).trans q0
         have u1 : decide (i.num ≤ q.num) = true:=by simpa [notUp,prevN_succ HQ.out] using hup
         clear hup
         go_quiet (fail)
         go_wp2
         go_ret
         exact ⟨ret_int HR.out.symm,belowDrewN hbw1 _⟩
       by_cases hct : contB i.ob = 0
       · have e0 : (contB i.ob != 0) = false:=by simpa using hct
         have HR:=Lh (show itemsB (some i.num) (l.drop ((j + 1) + 1)) = C by rw [← HIT.out,HN0.out,hup,hct];rfl)
         rw [hct] at HCO
         clear hct e0
         have pj : w1.cell? ⟨b,off + j * 8,none⟩ = some (.int .i64 q.num):=(World.cell?_of_block (a:=⟨b,off + j * 8,none⟩) (hbz1.block b hblt)).trans q0
         have u1 : decide (i.num ≤ q.num) = false:=by simpa [notUp,prevN_succ HQ.out] using hup
         clear hup
         go_quiet (fail)
         go_wp2_with fail
         refine (HCO.out _ (belowDrewN hbz1 _)).mono ?_
         rintro e w2 ⟨rfl,hb2⟩
         go_wp2
         go_roundw
         case rel => exact ⟨(j + 1) + 1,by omega,by go_num,(belowDrewN hbw1 _).trans (hb2.mono hbw1.size),Lh (by rw [prevN_succ HI.out];exact HR.out)⟩
         case measure => simp [intOf];omega
       · have e0 : (contB i.ob != 0) = true:=by simpa using hct
         have HR:=Lh (show C = contB i.ob by rw [← HIT.out,HN0.out,hup,if_neg (by decide),if_neg (by decide),if_pos hct])
         clear hct
         have pj : w1.cell? ⟨b,off + j * 8,none⟩ = some (.int .i64 q.num):=(World.cell?_of_block (a:=⟨b,off + j * 8,none⟩) (hbz1.block b hblt)).trans q0
         have u1 : decide (i.num ≤ q.num) = false:=by simpa [notUp,prevN_succ HQ.out] using hup
         clear hup
         go_quiet (fail)
         go_wp2_with fail
         refine (HCO.out _ (belowDrewN hbz1 _)).mono ?_
         rintro e w2 ⟨rfl,hb2⟩
         go_wp2
         go_ret
         exact ⟨ret_int HR.out.symm,(belowDrewN hbw1 _).trans (hb2.mono hbw1.size)⟩
   · have HR := Lib.hid (show C = 0 by
       rw [← HF.out,List.drop_eq_nil_of_le (by rw [HN.out];omega)];rfl)
     go_wp2
     go_ret
     exact ⟨ret_int HR.out.symm,hbr⟩
def FieldsF (w : World) (Y : Ob) (e : Ending) (w' : World) : Prop:=∃ y1 t1 u1 y2 t2 u2,e = .returned (.agg #[.int .i64 Y.kind,.int .i64 Y.n,.int .i64 Y.g,.string ⟨Y.s.toArray⟩,.slice y1 t1 u1,.slice y2 t2 u2]) ∧ Below w.heap.size w w'
theorem r19follow (S : Nat → Prop) (d : Nat) (l : List It) (w : World) (ip : Option Addr) (n ic : Nat) (x0 x1 x2 x3 x4 x5 : Value) (N G : Int) (s : L) (o : Ob) (p1 p2 : Option Addr) (n1 c1 n2 c2 : Nat) (h1c : ∀ u ∈ [x0, x1, x2, x3, x4, x5], u.oneCell' = true)
   (hv : ItemsAt S (d + 1) w (.slice ip n ic) l) (hn : l.length = n) (hl : n ≤ 1000000) (hS : ∀ b,S b → b < w.heap.size) (ho : o.kind = 8) (hN : o.n = N) (hG : o.g = G) :
   Calls Tryz.prog 95 #[.agg #[.slice ip n ic,x0,x1,x2,x3,x4,x5],.agg #[.int .i64 8,.int .i64 N,.int .i64 G,.string ⟨s.toArray⟩,.slice p1 n1 c1,.slice p2 n2 c2]] w (FieldsF w (followO l o)):=by
 have HV:=Lh (And.intro hv (And.intro hn hS))
 have HF:=Lh (show followO l o = match l.find? (fun i => i.num == N) with | none => .zero | some i => if i.gen = G then i.ob else .zero by unfold followO;rw [if_neg (by simp [ho]),hN,hG];rfl)
 clear hv hn hS ho hN hG
 go_enter Tryz.func95,Tryz.ntmps95
 go_wp2_with fail
 obtain ⟨w0,hw0⟩ : ∃ w0,((w.alloc (.cells #[.slice ip n ic,x0,x1,x2,x3,x4,x5] 28)).alloc (.cells #[.int .i64 8,.int .i64 N,.int .i64 G,.string ⟨s.toArray⟩,.slice p1 n1 c1,.slice p2 n2 c2] 26)).alloc (.cells #[.int .i64 0,.int .i64 0,.int .i64 0,.string ⟨#[]⟩,.slice none 0 0,.slice none 0 0] 26) = w0:=⟨_,rfl⟩
 have hx0 : w0.heap[w.heap.size]? = some (.cells #[.slice ip n ic,x0,x1,x2,x3,x4,x5] 28 (0,0)):=by rw [← hw0];exact (Below.heap_alloc _ _ _ (by simp;omega)).trans ((Below.heap_alloc _ _ _ (by simp)).trans (heap_new_at _ _ _ rfl))
 have hx1 : w0.heap[w.heap.size + 1]? = some (.cells #[.int .i64 8,.int .i64 N,.int .i64 G,.string ⟨s.toArray⟩,.slice p1 n1 c1,.slice p2 n2 c2] 26 (0,0)):=by rw [← hw0];exact (Below.heap_alloc _ _ _ (by simp)).trans (heap_new_at _ _ _ (by simp))
 have hx2 : w0.heap[w.heap.size + 2]? = some (.cells #[.int .i64 0,.int .i64 0,.int .i64 0,.string ⟨#[]⟩,.slice none 0 0,.slice none 0 0] 26 (0,0)):=by rw [← hw0];exact heap_new_at _ _ _ (by simp)
 have hb0 : Below w.heap.size w w0:=by rw [← hw0];exact bel
 have hz0 : w0.heap.size = w.heap.size + 3:=by rw [← hw0];simp
 rw [hw0]
 clear hw0
 have HX:=Lh (And.intro hx0 (And.intro hx1 hx2))
 clear hx0 hx1 hx2
 obtain ⟨F,hF⟩ : ∃ F,l.find? (fun i => i.num == N) = F:=⟨_,rfl⟩
 rw [hF] at HF
 go_loopw [14] (fun iv wr => ∃ k : Nat,k ≤ n ∧ iv = .int .i64 k ∧ Below (w.heap.size + 3) w0 wr ∧ Hid ((l.drop k).find? (fun i => i.num == N) = F)) (fun iv _ => n - (intOf iv).toNat)
 case atStart => exact ⟨0,Nat.zero_le _,rfl,Below.refl _ _,Lh (by simpa using hF)⟩
 case round =>
   obtain ⟨k,hk,rfl,hbr,HD⟩:=hrel
   clear hF
   have hzr:=hbr.size
   have hbw : Below w.heap.size w wr:=hb0.trans (hbr.mono (by omega))
   obtain ⟨z0,z1,z2,z3,z4,z5,zf⟩:=six_of ((hbr.block _ (by omega)).trans HX.out.2.1)
   by_cases hlk : k < n
   · have hvr : ItemsAt S (d + 1) wr (.slice ip n ic) l:=HV.out.1.kept (fun b h => hbw.block b (HV.out.2.2 b h))
     obtain ⟨b,off,rfl⟩:=hvr.addr HV.out.2.1 k hlk
     obtain ⟨i,y1,t1,u1,y2,t2,u2,hi,hsb,O1,a0,a1,a2,a3,a4,a5,a6,a7⟩:=item_kid hvr HV.out.2.1 k hlk
     have hk' : k < l.length:=by rw [HV.out.2.1];exact hlk
     have he : l[k] = i:=by rw [List.getElem?_eq_getElem hk'] at hi;exact Option.some.inj hi
     have hdr:=HD.out
     rw [List.drop_eq_getElem_cons hk',he,List.find?_cons] at hdr
     have v1 : (0 : Int) ≤ k:=by omega
     have v2 : (k : Int) < n:=by omega
     cases e1 : (i.num == N)
     · rw [e1] at hdr
       have HD2:=Lh (show (l.drop (k + 1)).find? (fun i => i.num == N) = F from hdr)
       clear hdr he hi O1 hvr hk'
       go_upto_region 6 with fail
       obtain ⟨w1,hw1⟩ : ∃ w1,wr.alloc (.cells #[.int .i64 i.num,.int .i64 i.gen,.int .i64 i.ob.kind,.int .i64 i.ob.n,.int .i64 i.ob.g,.string ⟨i.ob.s.toArray⟩,.slice y1 t1 u1,.slice y2 t2 u2] 50) = w1:=⟨_,rfl⟩
       have hx1 : w1.heap[wr.heap.size]? = some (.cells #[.int .i64 i.num,.int .i64 i.gen,.int .i64 i.ob.kind,.int .i64 i.ob.n,.int .i64 i.ob.g,.string ⟨i.ob.s.toArray⟩,.slice y1 t1 u1,.slice y2 t2 u2] 50 (0,0)):=by rw [← hw1];exact heap_new_at wr _ _ rfl
       have hbz1 : Below wr.heap.size wr w1:=by rw [← hw1];exact (Below.refl _ wr).alloc (Nat.le_refl _) _
       have hb01 : Below (w.heap.size + 3) w0 w1:=hbr.trans (hbz1.mono (by omega))
       have hz1:=hbz1.size
       rw [hw1]
       clear hw1 z0 z1 z2 z3 z4 z5 zf
       obtain ⟨z0,z1,z2,z3,z4,z5,zf⟩:=six_of ((hb01.block _ (by omega)).trans HX.out.2.1)
       obtain ⟨r0,r1,r2,r3,r4,r5,rf⟩:=six_of ((hb01.block _ (by omega)).trans HX.out.2.2)
       obtain ⟨i0,i1,i2,i3,i4,i5,i6,i7,jf⟩:=eightf hx1
       clear hx1 hbz1
       go_wp2
       go_roundw
       case rel => exact ⟨k + 1,by omega,by go_num,hb01,HD2⟩
       case measure => simp [intOf];omega
     · rw [e1] at hdr
       have HFF:=Lh (show followO l o = if i.gen = G then i.ob else .zero by rw [HF.out,← hdr])
       clear hdr he hi O1 hvr hk'
       by_cases e2 : i.gen = G
       · have g1 : (i.gen != G) = false:=by simpa using e2
         have HR:=Lh (show followO l o = i.ob by rw [HFF.out,if_pos e2])
         clear e2 HFF
         go_upto_region 6 with fail
         obtain ⟨w1,hw1⟩ : ∃ w1,wr.alloc (.cells #[.int .i64 i.num,.int .i64 i.gen,.int .i64 i.ob.kind,.int .i64 i.ob.n,.int .i64 i.ob.g,.string ⟨i.ob.s.toArray⟩,.slice y1 t1 u1,.slice y2 t2 u2] 50) = w1:=⟨_,rfl⟩
         have hx1 : w1.heap[wr.heap.size]? = some (.cells #[.int .i64 i.num,.int .i64 i.gen,.int .i64 i.ob.kind,.int .i64 i.ob.n,.int .i64 i.ob.g,.string ⟨i.ob.s.toArray⟩,.slice y1 t1 u1,.slice y2 t2 u2] 50 (0,0)):=by rw [← hw1];exact heap_new_at wr _ _ rfl
         have hbz1 : Below wr.heap.size wr w1:=by rw [← hw1];exact (Below.refl _ wr).alloc (Nat.le_refl _) _
         have hb01 : Below (w.heap.size + 3) w0 w1:=hbr.trans (hbz1.mono (by omega))
         have hz1:=hbz1.size
         rw [hw1]
         clear hw1 z0 z1 z2 z3 z4 z5 zf
         obtain ⟨z0,z1,z2,z3,z4,z5,zf⟩:=six_of ((hb01.block _ (by omega)).trans HX.out.2.1)
         obtain ⟨r0,r1,r2,r3,r4,r5,rf⟩:=six_of ((hb01.block _ (by omega)).trans HX.out.2.2)
         obtain ⟨i0,i1,i2,i3,i4,i5,i6,i7,jf⟩:=eightf hx1
         clear hx1 hbz1
         go_wp2
         rw [HR.out]
         refine bodyPost_ret (v:=.agg #[.int .i64 i.ob.kind,.int .i64 i.ob.n,.int .i64 i.ob.g,.string ⟨i.ob.s.toArray⟩,.slice y1 t1 u1,.slice y2 t2 u2]) (by simp [results,Tryz.results95,go_sem,r0,r1,r2,r3,r4,r5,rf]) rfl ⟨y1,t1,u1,y2,t2,u2,rfl,?_⟩
         iterate 6 (refine Below.setCell ?_ (by show _ ≤ w.heap.size + 1 + 1;omega) _)
         exact hb0.trans (hb01.mono (by omega))
       · have g1 : (i.gen != G) = true:=by simpa using e2
         have HR:=Lh (show followO l o = .zero by rw [HFF.out,if_neg e2])
         clear e2 HFF
         go_upto_region 6 with fail
         obtain ⟨w1,hw1⟩ : ∃ w1,wr.alloc (.cells #[.int .i64 i.num,.int .i64 i.gen,.int .i64 i.ob.kind,.int .i64 i.ob.n,.int .i64 i.ob.g,.string ⟨i.ob.s.toArray⟩,.slice y1 t1 u1,.slice y2 t2 u2] 50) = w1:=⟨_,rfl⟩
         have hx1 : w1.heap[wr.heap.size]? = some (.cells #[.int .i64 i.num,.int .i64 i.gen,.int .i64 i.ob.kind,.int .i64 i.ob.n,.int .i64 i.ob.g,.string ⟨i.ob.s.toArray⟩,.slice y1 t1 u1,.slice y2 t2 u2] 50 (0,0)):=by rw [← hw1];exact heap_new_at wr _ _ rfl
         have hbz1 : Below wr.heap.size wr w1:=by rw [← hw1];exact (Below.refl _ wr).alloc (Nat.le_refl _) _
         have hb01 : Below (w.heap.size + 3) w0 w1:=hbr.trans (hbz1.mono (by omega))
         have hz1:=hbz1.size
         rw [hw1]
         clear hw1 z0 z1 z2 z3 z4 z5 zf
         obtain ⟨z0,z1,z2,z3,z4,z5,zf⟩:=six_of ((hb01.block _ (by omega)).trans HX.out.2.1)
         obtain ⟨r0,r1,r2,r3,r4,r5,rf⟩:=six_of ((hb01.block _ (by omega)).trans HX.out.2.2)
         obtain ⟨i0,i1,i2,i3,i4,i5,i6,i7,jf⟩:=eightf hx1
         clear hx1 hbz1
         go_wp2
         rw [HR.out]
         refine bodyPost_ret (v:=.agg #[.int .i64 0,.int .i64 0,.int .i64 0,.string ⟨#[]⟩,.slice none 0 0,.slice none 0 0]) (by simp [results,Tryz.results95,go_sem,r0,r1,r2,r3,r4,r5,rf]) rfl ⟨none,0,0,none,0,0,rfl,?_⟩
         iterate 6 (refine Below.setCell ?_ (by show _ ≤ w.heap.size + 1 + 1;omega) _)
         exact hb0.trans (hb01.mono (by omega))
   · have HR := Lib.hid (show followO l o = .zero by
       have hdr:=HD.out
       rw [List.drop_eq_nil_of_le (by rw [HV.out.2.1];omega)] at hdr
       rw [HF.out,← hdr];rfl)
     obtain ⟨r0,r1,r2,r3,r4,r5,rf⟩:=six_of ((hbr.block _ (by omega)).trans HX.out.2.2)
     go_wp2
     rw [HR.out]
     refine bodyPost_ret (v:=.agg #[.int .i64 0,.int .i64 0,.int .i64 0,.string ⟨#[]⟩,.slice none 0 0,.slice none 0 0]) (by simp [results,Tryz.results95,go_sem,r0,r1,r2,r3,r4,r5,rf]) rfl ⟨none,0,0,none,0,0,rfl,?_⟩
     iterate 6 (refine Below.setCell ?_ (by show _ ≤ w.heap.size + 1 + 1;omega) _)
     exact hbw
theorem r19trail (S : Nat → Prop) (d : Nat) (w : World) (l : List It) (T : Ob) (ip p1 p2 : Option Addr) (n ic n1 c1 n2 c2 : Nat)
   (hI : ItemsAt S (d + 1) w (.slice ip n ic) l) (hn : l.length = n) (hl : n ≤ 1000000) (h : ObjAt S (d + 1) w (objCells T.kind T.n T.g T.s (.slice p1 n1 c1) (.slice p2 n2 c2)) T) (hsm : smallO (d + 1) T) (hS : ∀ b,S b → b < w.heap.size) :
   Calls Tryz.prog 56 #[.agg #[.slice ip n ic,.int .i64 T.kind,.int .i64 T.n,.int .i64 T.g,.string ⟨T.s.toArray⟩,.slice p1 n1 c1,.slice p2 n2 c2]] w fun e w' => e = .returned (.int .i64 (trailB l T)) ∧ Below w.heap.size w w':=by
 have HCH:=Lh (fun (W : World) (hW : Below w.heap.size w W) => Check_in S (d + 1) W _ T (h.kept (fun b h => hW.block b (hS b h)) (d + 1)) hsm (fun b h => Nat.lt_of_lt_of_le (hS b h) hW.size) (check_in S 24 (by omega)))
 have HGT:=Lh (fun (hc : checkB 24 T = 0) (W : World) (hW : Below w.heap.size w W) => r5get S d W T p1 p2 n1 c1 n2 c2 wRoot (h.kept (fun b h => hW.block b (hS b h)) (d + 1)) (fun b h => Nat.lt_of_lt_of_le (hS b h) hW.size) (chk_lens hc).1 (chk_lens hc).2)
 have HFO:=Lh (fun (W : World) (hW : Below w.heap.size w W) (Y : Ob) y1 t1 u1 y2 t2 u2 (h8 : Y.kind = 8) => r19follow S d l W ip n ic (.int .i64 T.kind) (.int .i64 T.n) (.int .i64 T.g) (.string ⟨T.s.toArray⟩) (.slice p1 n1 c1) (.slice p2 n2 c2) Y.n Y.g Y.s Y y1 y2 t1 u1 t2 u2 (by intro u hu;simp only [List.mem_cons,List.not_mem_nil,or_false] at hu;rcases hu with rfl | rfl | rfl | rfl | rfl | rfl <;> rfl) (hI.kept (fun b h => hW.block b (hS b h))) hn hl (fun b h => Nat.lt_of_lt_of_le (hS b h) hW.size) h8 rfl rfl)
 have hKK : KeysAt S w (.slice p1 n1 c1) T.keys:=by
   obtain ⟨kv,dv,hcs,hK0,hR0⟩:=h
   simp [objCells] at hcs;rw [hcs.1];exact hK0
 have hkn : T.keys.length = n1:=by
   rcases hKK with ⟨e,p,c,h⟩ | ⟨b,o,c,h,_⟩
   · rw [e];cases h;rfl
   · cases h;rfl
 have HK:=Lh (And.intro hKK (And.intro hkn hS))
 have HTB:=Lh (trailB_eq l T)
 have HKL:=Lh (fun (hc : checkB 24 T = 0) => (chk_lens hc).2)
 unfold objCells at HCH
 clear hI hn hl h hsm hS hKK hkn
 obtain ⟨C,hC⟩ : ∃ C,checkB 24 T = C:=⟨_,rfl⟩
 rw [hC] at HTB HCH HGT HKL
 clear hC
 go_enter Tryz.func56,Tryz.ntmps56
 go_upto_region 2 with fail
 obtain ⟨w0,hw0⟩ : ∃ w0,(w.alloc (.cells #[.slice ip n ic,.int .i64 T.kind,.int .i64 T.n,.int .i64 T.g,.string ⟨T.s.toArray⟩,.slice p1 n1 c1,.slice p2 n2 c2] 28)).alloc (.cells #[.int .i64 T.kind,.int .i64 T.n,.int .i64 T.g,.string ⟨T.s.toArray⟩,.slice p1 n1 c1,.slice p2 n2 c2] 26) = w0:=⟨_,rfl⟩
 have hx0 : w0.heap[w.heap.size]? = some (.cells #[.slice ip n ic,.int .i64 T.kind,.int .i64 T.n,.int .i64 T.g,.string ⟨T.s.toArray⟩,.slice p1 n1 c1,.slice p2 n2 c2] 28 (0,0)):=by rw [← hw0];exact (Below.heap_alloc _ _ _ (by simp)).trans (heap_new_at _ _ _ rfl)
 have hx1 : w0.heap[w.heap.size + 1]? = some (.cells #[.int .i64 T.kind,.int .i64 T.n,.int .i64 T.g,.string ⟨T.s.toArray⟩,.slice p1 n1 c1,.slice p2 n2 c2] 26 (0,0)):=by rw [← hw0];exact heap_new_at _ _ _ (by simp)
 have hb0 : Below w.heap.size w w0:=by rw [← hw0];exact bel
 have hz0 : w0.heap.size = w.heap.size + 2:=by rw [← hw0];simp
 rw [hw0]
 clear hw0
 have HX:=Lh (And.intro hx0 hx1)
 clear hx0 hx1
 obtain ⟨z0,z1,z2,z3,z4,z5,zf⟩:=six_of HX.out.2
 go_wp2_with fail
 refine (HCH.out _ hb0).mono ?_
 rintro e w1 ⟨rfl,hb1⟩
 have hz1:=hb1.size
 have hbw1:=hb0.trans (hb1.mono hb0.size)
 have HX1:=Lh (And.intro ((hb1.block _ (by omega)).trans HX.out.1) ((hb1.block _ (by omega)).trans HX.out.2))
 clear z0 z1 z2 z3 z4 z5 zf HX hb1 HCH
 by_cases hC0 : C = 0
 rotate_left
 · have HR:=Lh (show trailB l T = C by rw [HTB.out,if_pos hC0])
   have eC : (C != 0) = true:=by simpa using hC0
   clear hC0
   go_wp2
   go_ret
   exact ⟨ret_int HR.out.symm,hbw1⟩
 subst hC0
 obtain ⟨z0,z1,z2,z3,z4,z5,zf⟩:=six_of HX1.out.2
 by_cases h7 : T.kind = 7
 rotate_left
 · have HR:=Lh (show trailB l T = 10 by rw [HTB.out,if_neg (by simp),if_pos h7])
   have e7 : (T.kind != 7) = true:=by simpa using h7
   clear h7
   go_wp2
   go_ret
   exact ⟨ret_int HR.out.symm,hbw1⟩
 have HR:=Lh (show trailB l T = trailR l T by rw [HTB.out,if_neg (by simp),if_neg (by simp [h7])])
 have e7 : (T.kind != 7) = false:=by simpa using h7
 have hn1 : n1 ≤ 1000000:=by rw [← HK.out.2.1];exact HKL.out rfl
 have HG:=Lh (HGT.out rfl)
 rw [show (⟨wRoot.toArray⟩ : ByteArray) = ⟨#[82,111,111,116]⟩ from rfl] at HG
 obtain ⟨Y,hY⟩ : ∃ Y,(getO T wRoot).getD .zero = Y:=⟨_,rfl⟩
 rw [hY] at HG
 have HTR:=Lh (show trailR l T = if !(T.keys.all knownB) then 3 else rootB l Y by rw [← hY];rfl)
 clear h7 HTB HGT HKL hY
 go_wp2
 go_loopw [22] (fun i wr => ∃ k : Nat,k ≤ n1 ∧ i = .int .i64 k ∧ wr = w1 ∧ Hid (∀ x ∈ T.keys.take k,knownB x = true)) (fun i _ => n1 - (intOf i).toNat)
 case atStart => exact ⟨0,Nat.zero_le _,rfl,rfl,Lh (by simp)⟩
 case round =>
   obtain ⟨k,hk,rfl,rfl,HA⟩:=hrel
   by_cases hlk : k < n1
   · have hKr : KeysAt S wr (.slice p1 n1 c1) T.keys:=HK.out.1.kept (fun b h => hbw1.block b (HK.out.2.2 b h))
     obtain ⟨b,off,rfl⟩ : ∃ b off,p1 = some ⟨b,off,none⟩:=by
       rcases hKr with ⟨e,_⟩ | ⟨b,off,c,e,_⟩
       · have:=HK.out.2.1;rw [e] at this;simp at this;omega
       · cases e;exact ⟨_,_,rfl⟩
     obtain ⟨sb,g0⟩:=key_at hKr HK.out.2.1 k hlk
     obtain ⟨x,hx⟩ : ∃ x,T.keys.getD k [] = x:=⟨_,rfl⟩
     rw [hx] at g0
     have hxk : T.keys[k]? = some x:=by
       have hk' : k < T.keys.length:=by rw [HK.out.2.1];exact hlk
       rw [← hx,List.getD_eq_getElem?_getD,List.getElem?_eq_getElem hk'];rfl
     have htk : T.keys.take (k + 1) = T.keys.take k ++ [x]:=by
       rw [List.take_succ,hxk];rfl
     have HXX:=Lh (And.intro htk (List.mem_of_getElem? hxk))
     clear hKr hx hxk htk
     have HKN:=Lh (show knownB x = ((x == ([73,68] : L)) || (x == ([73,110,102,111] : L)) || (x == ([82,111,111,116] : L))) from rfl)
     have HNX := Lib.hid (fun (h : knownB x = true) => show ∀ z ∈ T.keys.take (k + 1), knownB z = true from fun z hz => by
         rw [HXX.out.1,List.mem_append] at hz
         rcases hz with hz | hz
         · exact HA.out z hz
         · simp only [List.mem_singleton] at hz;subst hz;exact h)
     cases q1 : (x == ([73,68] : L))
     · cases q2 : (x == ([73,110,102,111] : L))
       · cases q3 : (x == ([82,111,111,116] : L))
         · have HR2 := Lib.hid (show trailB l T = 3 by
             rw [HR.out,HTR.out,if_pos]
             rw [Bool.not_eq_true',List.all_eq_false]
             exact ⟨x,HXX.out.2,by rw [HKN.out,q1,q2,q3];decide⟩)
           go_wp2
           go_ret
           exact ⟨ret_int HR2.out.symm,hbw1⟩
         · have HN2:=Lh (HNX.out (by rw [HKN.out,q1,q2,q3];rfl))
           go_wp2
           go_roundw
           case rel => exact ⟨k + 1,by omega,by go_num,trivial,HN2⟩
           case measure => simp [intOf];omega
       · have HN2:=Lh (HNX.out (by rw [HKN.out,q1,q2];rfl))
         go_wp2
         go_roundw
         case rel => exact ⟨k + 1,by omega,by go_num,trivial,HN2⟩
         case measure => simp [intOf];omega
     · have HN2:=Lh (HNX.out (by rw [HKN.out,q1];rfl))
       go_wp2
       go_roundw
       case rel => exact ⟨k + 1,by omega,by go_num,trivial,HN2⟩
       case measure => simp [intOf];omega
   · have HR2 := Lib.hid (show trailB l T = rootB l Y by
       rw [HR.out,HTR.out,if_neg]
       rw [Bool.not_eq_true',Bool.not_eq_false,List.all_eq_true]
       intro x hx
       exact HA.out x (by rw [List.take_of_length_le (by rw [HK.out.2.1];omega)];exact hx))
     clear HTR HR HA
     go_wp2_with fail
     refine (HG.out _ hbw1).mono ?_
     rintro e w2 ⟨y1,t1,u1,y2,t2,u2,b,rfl,hb2⟩
     have hz2:=hb2.size
     have hbw2:=hbw1.trans (hb2.mono hbw1.size)
     have hd2:=(hb2.block _ (by omega)).trans HX1.out.1
     clear hb2 z0 z1 z2 z3 z4 z5 zf HX1 HG
     go_upto_region 14 with fail
     have hy3:=heap_new_at w2 (.cells #[.int .i64 Y.kind,.int .i64 Y.n,.int .i64 Y.g,.string ⟨Y.s.toArray⟩,.slice y1 t1 u1,.slice y2 t2 u2] 26) _ rfl
     have hd3:=(Below.heap_alloc w2 (.cells #[.int .i64 Y.kind,.int .i64 Y.n,.int .i64 Y.g,.string ⟨Y.s.toArray⟩,.slice y1 t1 u1,.slice y2 t2 u2] 26) w.heap.size (by omega)).trans hd2
     have hbw3:=hbw2.alloc hbw2.size (.cells #[.int .i64 Y.kind,.int .i64 Y.n,.int .i64 Y.g,.string ⟨Y.s.toArray⟩,.slice y1 t1 u1,.slice y2 t2 u2] 26)
     obtain ⟨w3,hw3⟩ : ∃ w3,w2.alloc (.cells #[.int .i64 Y.kind,.int .i64 Y.n,.int .i64 Y.g,.string ⟨Y.s.toArray⟩,.slice y1 t1 u1,.slice y2 t2 u2] 26) = w3:=⟨_,rfl⟩
     rw [hw3] at hy3 hd3 hbw3 ⊢
     clear hw3 hd2
     have hfld : ∀ (k n g : Int) (s : ByteArray) (a b : Value) (w : World),(Instr.field 26 (.agg #[.int .i64 k,.int .i64 n,.int .i64 g,.string s,a,b]) 0).run Tryz.prog w = .ok (.int .i64 k) w:=fun _ _ _ _ _ _ _ => by kernel_rfl
     by_cases h8 : Y.kind = 8
     · have HFF:=Lh (HFO.out w3 hbw3 Y y1 t1 u1 y2 t2 u2 h8)
       have HRB:=Lh (show trailB l T = if (followO l Y).kind ≠ 7 then 22 else 0 by rw [HR2.out];unfold rootB;simp [h8])
       rw [h8] at hy3
       have e8 : (Y.kind != 8) = false:=by simpa using h8
       obtain ⟨F,hF⟩ : ∃ F,followO l Y = F:=⟨_,rfl⟩
       rw [hF] at HFF HRB
       clear h8 hF HR2 HFO
       obtain ⟨z0,z1,z2,z3,z4,z5,zf⟩:=six_of hy3
       obtain ⟨b0,b1,b2,b3,b4,b5,b6⟩:=seven_of hd3
       clear hy3 hd3
       by_cases h7 : F.kind = 7
       · have HR3:=Lh (show trailB l T = 0 by rw [HRB.out,if_neg (by simp [h7])])
         have g7 : (F.kind != 7) = false:=by simpa using h7
         clear h7 HRB
         go_wp2_with fail
         refine (HFF.out).mono ?_
         rintro e w4 ⟨f1,g1,q1,f2,g2,q2,rfl,hb4⟩
         go_wp2
         go_ret
         exact ⟨ret_int HR3.out.symm,hbw3.trans (hb4.mono hbw3.size)⟩
       · have HR3:=Lh (show trailB l T = 22 by rw [HRB.out,if_pos h7])
         have g7 : (F.kind != 7) = true:=by simpa using h7
         clear h7 HRB
         go_wp2_with fail
         refine (HFF.out).mono ?_
         rintro e w4 ⟨f1,g1,q1,f2,g2,q2,rfl,hb4⟩
         go_wp2
         go_ret
         exact ⟨ret_int HR3.out.symm,hbw3.trans (hb4.mono hbw3.size)⟩
     · have HR3:=Lh (show trailB l T = 22 by rw [HR2.out];exact if_pos (.inl h8))
       have e8 : (Y.kind != 8) = true:=by simpa using h8
       obtain ⟨z0,z1,z2,z3,z4,z5,zf⟩:=six_of hy3
       clear h8 hy3
       go_wp2
       go_ret
       exact ⟨ret_int HR3.out.symm,hbw3⟩
theorem r19check (S : Nat → Prop) (d : Nat) (w : World) (cs : List Value) (D : Dc) (h : DocAt S d w cs D) (hS : ∀ b, S b → b < w.heap.size) :
   Calls Tryz.prog 22 #[.agg cs.toArray] w fun e w' => e = .returned (.int .i64 (docB D)) ∧ Below w.heap.size w w':=by
 obtain ⟨iv,tc,rfl,hI,hl,hsI,hO,hsT⟩:=h
 have HI:=Lh (fun (W : World) (hW : Below w.heap.size w W) => r19items S d iv D.items W (hI.kept (fun b h => hW.block b (hS b h))) hl hsI (fun b h => Nat.lt_of_lt_of_le (hS b h) hW.size))
 obtain ⟨p1,n1,c1,p2,n2,c2,rfl⟩:=hO.shape
 obtain ⟨ip,ic,rfl⟩:=hI.slice
 have HT:=Lh (fun (W : World) (hW : Below w.heap.size w W) => r19trail S d W D.items D.trail ip p1 p2 D.items.length ic n1 c1 n2 c2 (hI.kept (fun b h => hW.block b (hS b h))) rfl hl (hO.kept (fun b h => hW.block b (hS b h)) (d + 1)) hsT (fun b h => Nat.lt_of_lt_of_le (hS b h) hW.size))
 have HD:=Lh (show docB D = if itemsB none D.items ≠ 0 then itemsB none D.items else trailB D.items D.trail from rfl)
 unfold objCells
 obtain ⟨n,hn⟩ : ∃ n,D.items.length = n:=⟨_,rfl⟩
 rw [hn] at HI HT ⊢
 obtain ⟨C,hC⟩ : ∃ C,itemsB none D.items = C:=⟨_,rfl⟩
 rw [hC] at HI HD
 clear hI hl hsI hO hsT hS hn hC
 go_enter Tryz.func22,Tryz.ntmps22
 go_wp2_with fail
 have hb0:=(Below.refl w.heap.size w).alloc (Nat.le_refl _) (.cells #[.slice ip n ic,.int .i64 D.trail.kind,.int .i64 D.trail.n,.int .i64 D.trail.g,.string ⟨D.trail.s.toArray⟩,.slice p1 n1 c1,.slice p2 n2 c2] 28)
 have hx0:=heap_new_at w (.cells #[.slice ip n ic,.int .i64 D.trail.kind,.int .i64 D.trail.n,.int .i64 D.trail.g,.string ⟨D.trail.s.toArray⟩,.slice p1 n1 c1,.slice p2 n2 c2] 28) _ rfl
 refine (HI.out _ hb0).mono ?_
 rintro e w1 ⟨rfl,hb1⟩
 have hx1:=(hb1.block w.heap.size (by simp)).trans hx0
 have hbw1:=hb0.trans (hb1.mono hb0.size)
 obtain ⟨b0,b1,b2,b3,b4,b5,b6⟩:=seven_of hx1
 clear hx0 hx1 hb0 hb1
 by_cases hC0 : C = 0
 · have HR:=Lh (show docB D = trailB D.items D.trail by rw [HD.out,hC0];simp)
   have ec : (C != 0) = false:=by simpa using hC0
   clear hC0 HD
   go_wp2_with fail
   refine (HT.out _ hbw1).mono ?_
   rintro e w2 ⟨rfl,hb2⟩
   go_wp2
   go_ret
   exact ⟨ret_int HR.out.symm,hbw1.trans (hb2.mono hbw1.size)⟩
 · have HR:=Lh (show docB D = C by rw [HD.out,if_pos hC0])
   have ec : (C != 0) = true:=by simpa using hC0
   clear hC0 HD
   go_wp2
   go_ret
   exact ⟨ret_int HR.out.symm,hbw1⟩
theorem r18check (v : Value) (l : List Sl) (w : World) (hv : RArg slE w v l) (hl : SlotsOk l) :
   Calls Tryz.prog 64 #[v] w fun e w' => e = .returned (.int .i64 0) ∧ Below w.heap.size w w':=by
 obtain ⟨p,cp,rfl,_⟩:=id hv
 obtain ⟨n,hn⟩ : ∃ n,l.length = n:=⟨_,rfl⟩
 have HV:=Lh hv
 have HN:=Lh hn
 have HL:=Lh hl.2
 have hn1 : n ≤ 8192:=by have:=hl.1;omega
 rw [hn] at HV
 rw [hn]
 clear hv hn hl
 go_enter Tryz.func64,Tryz.ntmps64
 go_wp2
 go_loopw [3] (fun i wr => ∃ k : Nat,k ≤ n ∧ i = .int .i64 k ∧ Below w.heap.size w wr) (fun i _ => n - (intOf i).toNat)
 case atStart => exact ⟨0,Nat.zero_le _,rfl,Below.refl _ _⟩
 case round =>
   obtain ⟨k,hk,rfl,hbr⟩:=hrel
   have hzr:=hbr.size
   by_cases hlk : k < n
   · have hvr : RArg slE wr (.slice p n cp) l:=HV.out.below hbr
     have hk' : k < l.length:=by rw [HN.out];exact hlk
     obtain ⟨b,off,rfl,hblt,a0,a1,a2,a3⟩:=slot_at hvr k hk'
     obtain ⟨hN,hK,hA0,hA1,hG0,hG1,_⟩:=HL.out k l[k] (List.getElem?_eq_getElem hk')
     obtain ⟨N,hNe⟩ : ∃ N,l[k].num = N:=⟨_,rfl⟩
     obtain ⟨kd,hke⟩ : ∃ N,l[k].kind = N:=⟨_,rfl⟩
     obtain ⟨a,hae⟩ : ∃ N,l[k].a = N:=⟨_,rfl⟩
     obtain ⟨g,hge⟩ : ∃ N,l[k].b = N:=⟨_,rfl⟩
     rw [hNe] at a0 hN
     rw [hke] at a1 hK
     rw [hae] at a2 hA0 hA1
     rw [hge] at a3 hG0 hG1
     have hbne : ¬ b = wr.heap.size:=by omega
     have d0 : decide (N < 0) = false:=decide_eq_false (by omega)
     have d1 : decide (8191 < N) = false:=decide_eq_false (by omega)
     have d2 : decide (kd < 0) = false:=decide_eq_false (by omega)
     have d3 : decide (2 < kd) = false:=decide_eq_false (by omega)
     have d7 : (kd == 2) = false:=by simp;omega
     have d8 : decide (a < 0) = false:=decide_eq_false (by omega)
     have d9 : decide (2147483647 < a) = false:=decide_eq_false (by omega)
     have d10 : decide (g < 0) = false:=decide_eq_false (by omega)
     have d11 : decide (65535 < g) = false:=decide_eq_false (by omega)
     cases k with
     | zero =>
       clear hvr hN hK hA0 hA1 hG0 hG1 hNe hke hae hge
       simp only [Nat.zero_mul,Nat.add_zero] at a0 a1 a2 a3
       go_upto_region 14 with fail
       obtain ⟨w1,hw1⟩ : ∃ w1,wr.alloc (.cells #[.int .i64 N,.int .i64 kd,.int .i64 a,.int .i64 g] 48) = w1:=⟨_,rfl⟩
       have hx1 : w1.heap[wr.heap.size]? = some (.cells #[.int .i64 N,.int .i64 kd,.int .i64 a,.int .i64 g] 48 (0,0)):=by rw [← hw1];exact heap_new_at wr _ _ rfl
       have hbz1 : Below wr.heap.size wr w1:=by rw [← hw1];exact (Below.refl _ wr).alloc (Nat.le_refl _) _
       have hbw1 : Below w.heap.size w w1:=hbr.trans (hbz1.mono hbr.size)
       rw [hw1]
       clear hw1
       obtain ⟨z0,z1,z2,z3⟩:=four_of hx1
       clear hx1
       go_quiet (fail)
       go_wp2
       go_quiet (fail)
       go_wp2
       go_roundw
       case rel => exact ⟨1,by omega,by go_num,belowDrewN hbw1 _⟩
       case measure => simp [intOf];omega
     | succ j =>
       have hj' : j < l.length:=by omega
       obtain ⟨b',off',e',_,q0,_⟩:=slot_at hvr j hj'
       cases e'
       have hM:=(HL.out j l[j] (List.getElem?_eq_getElem hj')).num
       obtain ⟨M,hMe⟩ : ∃ N,l[j].num = N:=⟨_,rfl⟩
       rw [hMe] at q0 hM
       have wj : IntKind.i64.wrap (j : Int) = j:=IntWalk.i64_in _ (by omega)
       have gj : decide (0 < (j : Int) + 1) = true:=by rw [decide_eq_true_eq];omega
       have d4 : (N == M) = false:=by simp;omega
       have d5 : decide (N < M) = false:=decide_eq_false (by omega)
       have d6 : ¬ N = M:=by omega
       clear hvr hN hM hK hA0 hA1 hG0 hG1 hNe hke hae hge hMe
       go_upto_region 14 with fail
       obtain ⟨w1,hw1⟩ : ∃ w1,wr.alloc (.cells #[.int .i64 N,.int .i64 kd,.int .i64 a,.int .i64 g] 48) = w1:=⟨_,rfl⟩
       have hx1 : w1.heap[wr.heap.size]? = some (.cells #[.int .i64 N,.int .i64 kd,.int .i64 a,.int .i64 g] 48 (0,0)):=by rw [← hw1];exact heap_new_at wr _ _ rfl
       have hbz1 : Below wr.heap.size wr w1:=by rw [← hw1];exact (Below.refl _ wr).alloc (Nat.le_refl _) _
       have hbw1 : Below w.heap.size w w1:=hbr.trans (hbz1.mono hbr.size)
       rw [hw1]
       clear hw1
       obtain ⟨z0,z1,z2,z3⟩:=four_of hx1
       clear hx1
       have pj : w1.cell? ⟨b,off + j * 4,none⟩ = some (.int .i64 M):=(World.cell?_of_block (a:=⟨b,off + j * 4,none⟩) (hbz1.block b hblt)).trans q0
       go_quiet (fail)
       go_wp2
       go_quiet (fail)
       go_wp2
       go_roundw
       case rel => exact ⟨j + 2,by omega,by go_num,belowDrewN hbw1 _⟩
       case measure => simp [intOf];omega
   · go_wp2
     go_ret
     exact ⟨rfl,hbr⟩
theorem Tryz.infoPr : (Tryz.prog.info? 119).map (fun i => (i.zero,i.size,i.bytes)) = some (some (.agg #[.int .i64 0,.int .i64 0]),2,16):=by kernel_rfl
theorem r18runs (v : Value) (l : List Sl) (w : World) (hv : RArg slE w v l) (hl : SlotsOk l) :
   Calls Tryz.prog 65 #[v] w fun e w' => ∃ r,e = .returned r ∧ RunAt w' w.heap.size r l.length ∧ Below w.heap.size w w':=by
 obtain ⟨p,cp,rfl,_⟩:=id hv
 obtain ⟨n,hn⟩ : ∃ n,l.length = n:=⟨_,rfl⟩
 have HV:=Lh hv
 have HN:=Lh hn
 have HL:=Lh hl.2
 have hn1 : n ≤ 8192:=by have:=hl.1;omega
 rw [hn] at HV
 rw [hn]
 clear hv hn hl
 go_enter Tryz.func65,Tryz.ntmps65
 go_wp2
 go_loopw [3,4] (fun r i wr => ∃ k : Nat,k ≤ n ∧ i = .int .i64 k ∧ Hid (RunAt wr w.heap.size r k) ∧ Below w.heap.size w wr) (fun _ i _ => n - (intOf i).toNat)
 case atStart => exact ⟨0,Nat.zero_le _,rfl,Lh (.inl ⟨rfl,rfl⟩),Below.refl _ _⟩
 case round =>
   obtain ⟨k,hk,rfl,HR,hbr⟩:=hrel
   have hzr:=hbr.size
   by_cases hlk : k < n
   · have hvr : RArg slE wr (.slice p n cp) l:=HV.out.below hbr
     have hk' : k < l.length:=by rw [HN.out];exact hlk
     obtain ⟨b,off,rfl,hblt,a0,a1,a2,a3⟩:=slot_at hvr k hk'
     obtain ⟨hN,_,_,_,_,_,_⟩:=HL.out k l[k] (List.getElem?_eq_getElem hk')
     obtain ⟨N,hNe⟩ : ∃ N,l[k].num = N:=⟨_,rfl⟩
     rw [hNe] at a0 hN
     have hbne : ¬ b = wr.heap.size:=by omega
     cases k with
     | zero =>
       obtain ⟨_,rfl⟩ | ⟨h0,_⟩:=HR.out
       rotate_left
       · omega
       simp only [Nat.zero_mul,Nat.add_zero] at a0 a1 a2 a3
       have HNN:=Lh hN
       clear hvr hN hNe HR a1 a2 a3
       go_wp2
       go_quiet (fail)
       have hbq : Below wr.heap.size wr (wr.drewN nq):=belowDrewN (Below.refl _ _) _
       obtain ⟨wq,hwq⟩ : ∃ wq,wr.drewN nq = wq:=⟨_,rfl⟩
       rw [hwq] at hbq ⊢
       clear hwq
       have hbwq:=hbr.trans (hbq.mono hzr)
       have a0q:=(World.cell?_of_block (a:=⟨b,off,none⟩) (hbq.block b hblt)).trans a0
       go_wp2_with (at_builtin;go_must (refine rappend (E:=prE) rfl _ _ rfl Tryz.underlying117 Tryz.infoPr rfl (by decide) (by decide) w.heap.size _ [] (N,1) (rownS_nil _ _) rfl rfl (by simp) hbwq.size ?_);intro p2 q2 w2 hr2 hb2 hz2 hg2)
       go_roundw
       case rel => exact ⟨1,by omega,by go_num,Lh (run_first (by rw [HNN.out];rfl) hr2),hbwq.trans hb2⟩
       case measure => simp [intOf];omega
     | succ j =>
       obtain ⟨h0,_⟩ | ⟨_,g2,c2,cur,rfl,hgB,hgh,e0,e1⟩:=HR.out
       · omega
       have hj' : j < l.length:=by omega
       have hjn : j < n:=by omega
       have hj1 : j + 1 < n:=by omega
       obtain ⟨b',off',e',_,q0,_⟩:=slot_at hvr j hj'
       cases e'
       have hM:=(HL.out j l[j] (List.getElem?_eq_getElem hj')).num
       obtain ⟨M,hMe⟩ : ∃ N,l[j].num = N:=⟨_,rfl⟩
       rw [hMe] at q0 hM
       have d4 : decide (M < 9223372036854775807) = true:=decide_eq_true (by omega)
       have wM : IntKind.i64.wrap (M + 1) = N:=by rw [IntWalk.i64_in _ (by omega)];omega
       have wj : IntKind.i64.wrap (j : Int) = j:=IntWalk.i64_in _ (by omega)
       have wj2 : IntKind.i64.wrap ((j : Int) + 1 + 1) = (j : Int) + 1 + 1:=IntWalk.i64_in _ (by omega)
       have gj : decide (0 < (j : Int) + 1) = true:=by rw [decide_eq_true_eq];omega
       have gN : (N == N) = true:=by simp
       have hglt : g2 < wr.heap.size:=lt_of_block hgh
       have hgne : ¬ g2 = wr.heap.size:=by omega
       have c1 : wr.cell? ⟨g2,1,none⟩ = some (.int .i64 ((j : Int) + 1)):=by simp [World.cell?,hgh,e1]
       have c1f : wr.frozen? ⟨g2,1,none⟩ = false:=by simp [World.frozen?,hgh]
       have HG:=Lh (And.intro hgh (And.intro e0 e1))
       clear hvr hN hM hNe hMe HR hgh e0 e1 a1 a2 a3
       go_wp2
       go_quiet (fail)
       go_wp2
       go_region
       go_wp2
       go_roundw
       case rel =>
         refine ⟨j + 2,by omega,by go_num,Lh (.inr ⟨by omega,g2,c2,cur.setIfInBounds 1 (.int .i64 ((j : Int) + 1 + 1)),rfl,hgB,set_any (w:=wr.drewN _) HG.out.1,?_,?_⟩),(belowDrewN hbr _).setCell (p:=⟨g2,1,none⟩) hgB _⟩
         · rw [Array.getElem?_setIfInBounds_ne (by decide)];exact HG.out.2.1
         · rw [Array.getElem?_setIfInBounds_self_of_lt (Array.getElem?_eq_some_iff.1 HG.out.2.2).1];rfl
       case measure => simp [intOf];omega
   · obtain rfl : k = n:=by omega
     go_wp2
     go_ret
     exact ⟨_,rfl,HR.out,hbr⟩
theorem rappendST {ops : Array Oper} {o : Oper} {a : Act} {K : Act → World → Prop} {Q : Exit → Act → World → Prop} {F : Prop} {w : World} (hgd : o.guard = none) (s x : Operand)
   (ho : o.op = .call { callee:=.builtin .append,args:=#[s,x],argTypes:=#[98,9] })
   (B : Nat) (v : Value) (l : L) (r : ByteArray) (hown : ownB w B v l) (hs : a.eval s = v)
   (hx : a.eval x = .string r) (hlen : l.length + r.size ≤ 140737488355327) (hB : B ≤ w.heap.size)
   (h : ∀ v' w',ownB w' B v' (l ++ r.data.toList) → Below B w w' → K (a.put o.dst v') w') :
   if Region.wanted o (yielded ops a.tmps) = true then Oper.wp Tryz.prog o a w K Q else F:=by
 have hw : Region.wanted o (yielded ops a.tmps) = true:=by simp [Region.wanted,hgd]
 rw [if_pos hw]
 obtain ⟨i0,hi,hz0,hz1,hz2⟩:=info_parts Tryz.infoU8
 obtain ⟨v',w',hr,h2,h3,h4⟩:=Go.Lib.run_append_own_string (P:=Tryz.prog) w B 98 9 o.type 5 i0 Tryz.underlying98 Tryz.underlying9 hi hz0 hz1 hz2 v l.length _ hown r (by unfold maxLen;omega) (by omega) hB
 unfold Oper.wp
 simp [execOp,ho,resolve,invoke,builtin,hs,hx,hr,Result.andThen]
 refine h v' w' ?_ ((Below.refl B _).grown h3 hB (own_base hown))
 unfold ownB
 have e1 : (l ++ r.data.toList).length = l.length + r.size:=by rw [List.length_append];rfl
 rw [e1,List.map_append]
 exact h2
theorem rappendGT {ops : Array Oper} {o : Oper} {a : Act} {K : Act → World → Prop} {Q : Exit → Act → World → Prop} {F : Prop} {w : World} (hgd : o.guard = none) (s x : Operand)
   (ho : o.op = .call { callee:=.builtin .append,args:=#[s,x],argTypes:=#[98,9] })
   (B g n : Nat) (l : L) (fz : Nat × Nat) (r : ByteArray) (hb : w.heap[g]? = some (.cells (l.map fun c => Value.int .u8 c.toNat).toArray 5 fz)) (hn : l.length = n) (hs : a.eval s = .slice (some ⟨g,0,none⟩) n n)
   (hx : a.eval x = .string r) (hr : 0 < r.size) (hlen : n + r.size ≤ 140737488355327) (hB : B ≤ w.heap.size)
   (h : ∀ v' w',ownB w' B v' (l ++ r.data.toList) → Below B w w' → K (a.put o.dst v') w') :
   if Region.wanted o (yielded ops a.tmps) = true then Oper.wp Tryz.prog o a w K Q else F:=by
 have hw : Region.wanted o (yielded ops a.tmps) = true:=by simp [Region.wanted,hgd]
 rw [if_pos hw]
 obtain ⟨i,hi,hz,hsize,hby⟩:=info_parts Tryz.infoU8
 obtain ⟨xs,hxs⟩ : ∃ xs,(l.map fun c => Value.int .u8 c.toNat) = xs:=⟨_,rfl⟩
 have hxl : xs.length = n:=by rw [← hxs];simpa using hn
 rw [hxs] at hb
 have hrun:=Go.Lib.run_append_grow_string (P:=Tryz.prog) w 98 9 o.type 5 i (.int .u8 0) Tryz.underlying98 Tryz.underlying9 hi hz ⟨g,0,none⟩ n n xs (by rw [hsize];simpa using hxl) (World.news_of_block hb) r (by omega) (by omega) (by rw [hby];exact growslice_fits (by omega) (by omega))
 unfold Oper.wp
 simp [execOp,ho,resolve,invoke,builtin,hs,hx,hrun,Result.andThen]
 have h63 : n + r.size ≤ maxLen:=by unfold maxLen;omega
 have hge:=grownCap_ge w (n + r.size) n 5
 have hcm : grownCap w (n + r.size) n 5 ≤ maxLen:=grownCap_le_maxLen w (n + r.size) n 5 h63
 have hl2 : (xs ++ Go.Lib.strCells r).length = (n + r.size) * 1:=by rw [List.length_append,hxl,Go.Lib.strCells_length,Nat.mul_one]
 have e1 : (l ++ r.data.toList).length = n + r.size:=by rw [List.length_append,hn];rfl
 refine h _ _ ?_ ⟨rfl,rfl,rfl,by simp,fun k hk => ?_⟩
 · unfold ownB
   rw [e1,List.map_append,hxs]
   refine ⟨hl2,.inr ⟨w.heap.size,_,_,rfl,hB,heap_alloc_new w.drew _,hge,hcm,?_,?_⟩⟩
   · have hz1 : (Value.int IntKind.u8 0).cells.size = 1:=rfl
     simp only [Array.size_append,List.size_toArray,size_zeroCells,hz1,hxl,Go.Lib.strCells_length]
     omega
   · simp only [Array.toList_append,List.append_assoc]
     have e2 : List.map (fun c => Value.int .u8 c.toNat) r.data.toList = Go.Lib.strCells r:=rfl
     rw [e2,← List.append_assoc,← hl2]
     exact List.take_left
 · exact Below.heap_alloc w.drew _ k (by show k < w.heap.size;omega)
theorem kslots (v1 v2 : Value) (l : List Sl) (w : World) (h1 : RArg slE w v1 l) (h2 : RArg slE w v2 l) (hl : l.length ≤ 100000) :
   Calls Tryz.prog 12 #[v1,v2] w fun e w' => e = .returned (.bool true) ∧ Below w.heap.size w w':=by
 obtain ⟨p1,c1,rfl,h1'⟩:=id h1
 obtain ⟨p2,c2,rfl,h2'⟩:=id h2
 obtain ⟨n,hn⟩ : ∃ n,l.length = n:=⟨_,rfl⟩
 have HH:=Lh (And.intro h1 h2)
 have HN:=Lh hn
 rw [hn] at HH hl ⊢
 clear h1 h2 h1' h2' hn
 go_enter Tryz.func12,Tryz.ntmps12
 go_wp2
 go_loopw [5] (fun i wr => ∃ k : Nat,k ≤ n ∧ i = .int .i64 k ∧ Below w.heap.size w wr) (fun i _ => n - (intOf i).toNat)
 case atStart => exact ⟨0,Nat.zero_le _,rfl,Below.refl _ _⟩
 case round =>
   obtain ⟨k,hk,rfl,hbr⟩:=hrel
   by_cases hlk : k < n
   · obtain ⟨g1,o1,e1,_,a0,a1,a2,a3⟩:=slot_at (HH.out.1.below hbr) k (by rw [HN.out];exact hlk)
     obtain ⟨g2,o2,e2,_,b0,b1,b2,b3⟩:=slot_at (HH.out.2.below hbr) k (by rw [HN.out];exact hlk)
     obtain ⟨X,hX⟩ : ∃ X,l[k]'(by rw [HN.out];exact hlk) = X:=⟨_,rfl⟩
     rw [hX] at a0 a1 a2 a3 b0 b1 b2 b3
     subst e1
     subst e2
     clear hX
     have v1 : (0 : Int) ≤ k:=by omega
     have v2 : (k : Int) < n:=by omega
     go_wp2_with fail
     go_quiet (fail)
     go_wp2
     go_roundw
     case rel => exact ⟨k + 1,by omega,by go_num,bel⟩
     case measure => simp [intOf];omega
   · go_wp2
     go_ret
     exact ⟨rfl,hbr⟩
end Go.Proofs.YtfgdhcemidlnfaaGreatDoor
