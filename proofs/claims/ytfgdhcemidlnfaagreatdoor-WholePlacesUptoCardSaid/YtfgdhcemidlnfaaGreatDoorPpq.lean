/- Parts of the proof: RkE RkH RkF RkI RkJ RkK. -/
import Derived.Test.YtfgdhcemidlnfaaGreatDoorPpo
import Derived.Test.YtfgdhcemidlnfaaGreatDoorPpl
import Derived.Test.YtfgdhcemidlnfaaGreatDoorPpp
import Derived.Test.YtfgdhcemidlnfaaGreatDoorPpn
import Derived.Test.YtfgdhcemidlnfaaGreatDoorPpb
set_option linter.all false
set_option maxRecDepth 100000
set_option maxHeartbeats 8000000
namespace Go.Proofs.YtfgdhcemidlnfaaGreatDoor
open Go.RowKit Fo
theorem eleven_of {w : World} {b : Nat} {t : TypeId} {v0 v1 v2 v3 v4 v5 v6 v7 v8 v9 v10 : Value} (h : w.heap[b]? = some (.cells #[v0, v1, v2, v3, v4, v5, v6, v7, v8, v9, v10] t (0, 0))) :
   w.cell? ⟨b,0,none⟩ = some v0 ∧ w.cell? ⟨b,1,none⟩ = some v1 ∧ w.cell? ⟨b,2,none⟩ = some v2 ∧ w.cell? ⟨b,3,none⟩ = some v3 ∧ w.cell? ⟨b,4,none⟩ = some v4 ∧ w.cell? ⟨b,5,none⟩ = some v5 ∧ w.cell? ⟨b,6,none⟩ = some v6 ∧ w.cell? ⟨b,7,none⟩ = some v7 ∧ w.cell? ⟨b,8,none⟩ = some v8 ∧ w.cell? ⟨b,9,none⟩ = some v9 ∧ w.cell? ⟨b,10,none⟩ = some v10 ∧ ∀ o,w.frozen? ⟨b,o,none⟩ = false:=by
 simp [World.cell?,World.frozen?,h]
structure SecI (w wr : World) (a : Nat) (acc : List Sl) : Prop where
 below : Below w.heap.size w wr
 size : w.heap.size + 2 ≤ wr.heap.size
 res : wr.heap[w.heap.size]? = some (.cells #[.int .i64 0,.slice none 0 0,.int .i64 0,.int .i64 0,.int .i64 0,.string ⟨#[]⟩,.slice none 0 0,.slice none 0 0,.int .i64 0,.int .i64 0,.int .i64 0] 42 (0,0))
 sec : ∃ sv,wr.heap[w.heap.size + 1]? = some (.cells #[.int .i64 a,sv,.int .i64 0,.int .i64 0,.int .i64 0,.string ⟨#[]⟩,.slice none 0 0,.slice none 0 0,.int .i64 0,.int .i64 0,.int .i64 0] 42 (0,0)) ∧ rownS slE 48 wr (w.heap.size + 2) sv acc
theorem SecI.step {w wr w' : World} {a : Nat} {acc : List Sl} (h : SecI w wr a acc) (hb : Below wr.heap.size wr w') : SecI w w' a acc:=by
 obtain ⟨sv,h1,h2⟩:=h.sec
 have:=h.size
 exact ⟨h.below.trans (hb.mono h.below.size),Nat.le_trans h.size hb.size,(hb.block _ (by omega)).trans h.res,sv,(hb.block _ (by omega)).trans h1,h2.below hb⟩
theorem r18keep (w : World) (B b : Nat) (o : Nat) (v : Value) (h : b ≠ B) : (w.setCell ⟨B,o,none⟩ v).heap[b]? = w.heap[b]?:=Below.heap_setCell _ _ _ _ h
theorem r18size (w : World) (B : Nat) (o : Nat) (v : Value) : (w.setCell ⟨B,o,none⟩ v).heap.size = w.heap.size:=by simp [World.setCell]
theorem r18below {w w' : World} {B m : Nat} {o : Nat} {v : Value} (h : m ≤ B) (hb : Below m w w') : Below m w (w'.setCell ⟨B,o,none⟩ v):=hb.setCell (p:=⟨B,o,none⟩) h v
theorem k18read (s : ByteArray) (hs : s.size ≤ 1048576) (a : Nat) (ha : a ≤ s.size) (l : List Sl) (t : Ob) (r l1 l2 l3 l4 l5 : L) (hT : TableAt (s.data.toList.drop a) l t r l1 l2 l3 l4 l5) (hn : l.length ≤ 8192)
   (h7 : t.kind = 7) (hkl : t.keys.length ≤ 8192) (hk2 : ∀ x ∈ t.keys,x.length ≤ 1000000) (hp1 : [80,114,101,118] ∉ t.keys) (hp2 : [88,82,101,102,83,116,109] ∉ t.keys) (w : World) :
   Calls Tryz.prog 14 #[.string s,.int .i64 a] w fun e w' => ∃ p c p1 c1 p2 n2 c2 q,e = .returned (.tuple #[.agg #[.int .i64 a,.slice p l.length c,.int .i64 t.kind,.int .i64 t.n,.int .i64 t.g,.string ⟨t.s.toArray⟩,.slice p1 t.keys.length c1,.slice p2 n2 c2,.int .i64 (-1),.int .i64 (-1),.int .i64 0],.int .i64 q,.int .i64 0]) ∧
     RArg slE w' (.slice p l.length c) l ∧ ObjAt (fun b => w.heap.size ≤ b) 25 w' (objCells t.kind t.n t.g t.s (.slice p1 t.keys.length c1) (.slice p2 n2 c2)) t ∧ Below w.heap.size w w':=by
 have HBE:=Lh (fun W => show Calls Tryz.prog 32 #[.string s,.string ⟨#[120,114,101,102]⟩,.int .i64 a] W (fun e w' => e = .returned (.bool true) ∧ w' = W) from by
   have:=rbegins_any s ⟨#[120,114,101,102]⟩ a ha (by omega) (by decide) W
   rw [prefix_take] at this
   rw [show (List.take ((⟨#[120,114,101,102]⟩ : ByteArray).data.toList.length) (s.data.toList.drop a) == (⟨#[120,114,101,102]⟩ : ByteArray).data.toList) = true from by
     rw [show (⟨#[120,114,101,102]⟩ : ByteArray).data.toList = wordX from rfl,show wordX.length = 4 from rfl,hT.head];simp] at this
   exact this)
 have HWX:=Lh (fun W => show Calls Tryz.prog 33 #[.string s,.int .i64 a,.string ⟨#[120,114,101,102]⟩] W (KWordOut s (some l1) W) from by
   have:=kword s a wordX ha (by omega) W
   rw [hT.xref] at this;exact this)
 have HWT:=Lh (fun (q : Nat) (hq : q ≤ s.size) W => show Calls Tryz.prog 33 #[.string s,.int .i64 q,.string ⟨#[116,114,97,105,108,101,114]⟩] W (KWordOut s (wordR (s.data.toList.drop q) wordTr) W) from kword s q wordTr hq (by omega) W)
 have HN1:=Lh (fun (q : Nat) (hq : q ≤ s.size) (hd : s.data.toList.drop q = l1) W => knumber s q 0 8191 0 l2 hq (by omega) (by rw [hd];exact hT.first) (by decide) (by decide) W)
 have HN2:=Lh (fun (q : Nat) (hq : q ≤ s.size) (hd : s.data.toList.drop q = l2) W => knumber s q 0 8192 l.length l3 hq (by omega) (by rw [hd];exact hT.count) (by decide) (by decide) W)
 have HOB:=Lh (fun (q : Nat) (hq : q ≤ s.size) (hd : s.data.toList.drop q = l5) W => kObject s hs q hq t r (by rw [hd];exact hT.dict) W)
 have HTT:=Lh hT
 obtain ⟨N,hN⟩ : ∃ N,l.length = N:=⟨_,rfl⟩
 have HNN:=Lh hN
 rw [hN] at HN2 hn ⊢
 clear hT hN
 go_enter Tryz.func14,Tryz.ntmps14
 go_wp2_with fail
 refine (HBE.out _).mono ?_
 rintro e w0 ⟨rfl,h0⟩
 obtain rfl:=h0.symm
 go_wp2_with fail
 refine (HWX.out _).mono ?_
 rintro e w1 ⟨⟨z,rfl,hz⟩,hb1⟩
 obtain ⟨q1,rfl,hq1,hd1⟩:=hz _ rfl
 have HI1 : SecI w w1 a []:=SecI.step (wr:=(w.alloc (.cells #[.int .i64 0,.slice none 0 0,.int .i64 0,.int .i64 0,.int .i64 0,.string ⟨#[]⟩,.slice none 0 0,.slice none 0 0,.int .i64 0,.int .i64 0,.int .i64 0] 42)).alloc (.cells #[.int .i64 a,.slice none 0 0,.int .i64 0,.int .i64 0,.int .i64 0,.string ⟨#[]⟩,.slice none 0 0,.slice none 0 0,.int .i64 0,.int .i64 0,.int .i64 0] 42)) ⟨bel,by simp,(Below.heap_alloc _ _ _ (by simp)).trans (heap_new_at _ _ _ rfl),_,heap_new_at _ _ _ (by simp),rownS_nil _ _⟩ hb1
 have HD1:=Lh hd1
 clear hz hb1 hd1
 go_wp2
 go_loopw [8,9] (fun tv ov wr => ov = .bool true ∧ ∃ (q : Nat) (acc : List Sl),tv = .int .i64 q ∧ q ≤ s.size ∧ SecI w wr a acc ∧ ((acc = [] ∧ Hid (s.data.toList.drop q = l1)) ∨ (acc = l ∧ Hid (s.data.toList.drop q = l4)))) (fun tv _ _ => if s.data.toList.drop (intOf tv).toNat = l1 then 1 else 0)
 case atStart => exact ⟨rfl,q1,[],rfl,hq1,HI1,.inl ⟨rfl,HD1⟩⟩
 case round =>
   obtain ⟨rfl,q,acc,rfl,hq,HI,hph⟩:=hrel
   rcases hph with ⟨rfl,HD⟩ | ⟨rfl,HD⟩
   · have HWQ := Lib.hid (fun W => show Calls Tryz.prog 33 #[.string s, .int .i64 q, .string ⟨#[116, 114, 97, 105, 108, 101, 114]⟩] W (KWordOut s none W) from by
       have:=HWT.out q hq W
       rw [HD.out,HTT.out.more] at this;exact this)
     go_wp2_with fail
     refine (HWQ.out _).mono ?_
     rintro e w2 ⟨⟨z,rfl,_⟩,hb2⟩
     have HI2:=HI.step hb2
     clear HI hb2
     go_wp2_with fail
     refine (HN1.out q hq HD.out _).mono ?_
     rintro e w3 ⟨q3,rfl,hq3,hd3,hb3⟩
     have HI3:=HI2.step hb3
     have HD3:=Lh hd3
     clear HI2 hb3 hd3
     go_wp2_with fail
     refine (HN2.out q3 hq3 HD3.out _).mono ?_
     rintro e w4 ⟨q4,rfl,hq4,hd4,hb4⟩
     have HI4:=HI3.step hb4
     have HE4 : Hid (entriesR (N - 0) ((0 : Nat) : Int) (s.data.toList.drop q4) [] = some (l,l4)):=Lh (by rw [hd4,← HNN.out];exact HTT.out.slots)
     clear HI3 hb4 hd4 HWQ
     go_wp2
     go_loopw [8,9,14] (fun tv ov iv wr => ov = .bool true ∧ ∃ (k q : Nat) (acc : List Sl),iv = .int .i64 k ∧ tv = .int .i64 q ∧ k ≤ N ∧ q ≤ s.size ∧ SecI w wr a acc ∧ Hid (acc.length = k) ∧ Hid (entriesR (N - k) (k : Int) (s.data.toList.drop q) acc = some (l,l4)) ∧ Hid (∀ y ∈ acc,y.num < (k : Int))) (fun _ _ iv _ => N - (intOf iv).toNat)
     case atStart => exact ⟨rfl,0,q4,[],rfl,rfl,Nat.zero_le _,hq4,HI4,Lh rfl,HE4,Lh (by simp)⟩
     case round =>
       obtain ⟨rfl,k,q5,acc,rfl,rfl,hk,hq5,HI,HL,HE,HY⟩:=hrel
       by_cases hlk : k < N
       · obtain ⟨x,lx,he,hxn,hrest⟩:=entries_step (m:=N - k - 1) (show entriesR (N - k - 1 + 1) (k : Int) (s.data.toList.drop q5) acc = some (l,l4) from by rw [show N - k - 1 + 1 = N - k by omega];exact HE.out) HY.out
         have HEN:=Lh (fun W => kentry s q5 (k : Int) x lx hq5 (by omega) he W)
         have HXN:=Lh (And.intro hxn hrest)
         clear he hxn hrest
         go_wp2_with fail
         refine (HEN.out _).mono ?_
         rintro e w5 ⟨q6,rfl,hq6,hd6,hb5⟩
         have HD6:=Lh hd6
         have hz5:=hb5.size
         simp at hz5
         have Y5:=(hb5.block _ (by simp)).trans (heap_new_at wr _ _ rfl)
         obtain ⟨y0,y1,y2,y3⟩:=four_of Y5
         have yf : ∀ o,w5.frozen? ⟨wr.heap.size,o,none⟩ = false:=fun o => by simp [World.frozen?,Y5]
         have hbr5 : Below wr.heap.size wr w5:=((Below.refl _ wr).alloc (Nat.le_refl _) _).trans (hb5.mono (by simp))
         have hbr6:=(((hbr5.setCell (p:=⟨wr.heap.size,0,none⟩) (Nat.le_refl _) (.int .i64 x.num)).setCell (p:=⟨wr.heap.size,1,none⟩) (Nat.le_refl _) (.int .i64 x.kind)).setCell (p:=⟨wr.heap.size,2,none⟩) (Nat.le_refl _) (.int .i64 x.a)).setCell (p:=⟨wr.heap.size,3,none⟩) (Nat.le_refl _) (.int .i64 x.b)
         obtain ⟨sv,hS,hr⟩:=HI.sec
         have hzr:=HI.size
         have hS5:=(hbr5.block (w.heap.size + 1) (by omega)).trans hS
         have hS6:=(hbr6.block (w.heap.size + 1) (by omega)).trans hS
         have hr6:=hr.below hbr6
         have hR6:=(hbr6.block w.heap.size (by omega)).trans HI.res
         have HLL:=HL.out
         obtain ⟨x0,x1,x2,x3,x4,x5,x6,x7,x8,x9,x10,xf⟩:=eleven_of hS5
         clear hd6 hb5 HEN
         go_wp2_with fail
         obtain ⟨w6,hw6⟩ : ∃ w6,(((w5.setCell ⟨wr.heap.size,0,none⟩ (.int .i64 x.num)).setCell ⟨wr.heap.size,1,none⟩ (.int .i64 x.kind)).setCell ⟨wr.heap.size,2,none⟩ (.int .i64 x.a)).setCell ⟨wr.heap.size,3,none⟩ (.int .i64 x.b) = w6:=⟨_,rfl⟩
         rw [hw6] at hbr6 hS6 hr6 hR6 ⊢
         have hz6:=hbr6.size
         refine (klay (w.heap.size + 2) sv acc x w6 hr6 (by omega) (fun y hy => by rw [HXN.out.1];exact HY.out y hy) (by omega)).mono ?_
         rintro e w7 ⟨p,c,rfl,hr7,hb7⟩
         have hz7:=hb7.size
         have hS7:=(hb7.block (w.heap.size + 1) (by omega)).trans hS6
         have hR7:=(hb7.block w.heap.size (by omega)).trans hR6
         have hbw7 : Below w.heap.size w w7:=HI.below.trans ((hbr6.mono HI.below.size).trans (hb7.mono (by omega)))
         clear hw6 hS6 hr6 hR6 hbr6 hbr5 y0 y1 y2 y3 yf Y5 x0 x1 x2 x3 x4 x5 x6 x7 x8 x9 x10 xf hS5 hS hr hb7
         obtain ⟨x0,x1,x2,x3,x4,x5,x6,x7,x8,x9,x10,xf⟩:=eleven_of hS7
         have hr7':=hr7
         rw [HLL] at hr7'
         have HR7:=Lh hr7'
         clear hr7 hr7'
         go_wp2
         go_roundw
         case rel =>
           refine ⟨rfl,k + 1,q6,acc ++ [x],by go_num,rfl,by omega,hq6,⟨hbw7.setCell (p:=⟨w.heap.size + 1,1,none⟩) (by show w.heap.size ≤ w.heap.size + 1;omega) _,by simp [World.setCell];omega,(Below.heap_setCell _ _ _ _ (by show w.heap.size ≠ w.heap.size + 1;omega)).trans hR7,.slice p (k + 1) c,by rw [set_any hS7];rfl,?_⟩,Lh (by simp;exact HLL),Lh ?_,Lh ?_⟩
           · exact World.ownsRow.kept HR7.out (row:=some (w.heap.size + 1)) ⟨rfl,rfl,rfl,by simp [World.setCell],fun k _ hk => Below.heap_setCell _ _ _ _ (fun e => hk (by rw [e]))⟩ (.inr (fun e => by have:=own_base HR7.out _ e;omega))
           · rw [show N - (k + 1) = N - k - 1 by omega,HD6.out]
             have:=HXN.out.2
             rw [show ((k + 1 : Nat) : Int) = (k : Int) + 1 by omega]
             exact this
           · intro y hy
             rcases List.mem_append.1 hy with hy | hy
             · have:=HY.out y hy;omega
             · have : y = x:=by simpa using hy
               rw [this,HXN.out.1];omega
         case measure => simp [intOf];omega
       · have hkN : k = N:=by omega
         subst hkN
         have hE:=HE.out
         rw [Nat.sub_self,entriesR] at hE
         have hacc : acc = l:=by cases hE;rfl
         have hdq : s.data.toList.drop q5 = l4:=by cases hE;rfl
         have HACC:=Lh hacc
         have HDQ:=Lh hdq
         clear hE hacc hdq
         go_wp2
         go_roundw
         case rel => exact ⟨rfl,q5,acc,rfl,hq5,HI,.inr ⟨HACC.out,HDQ⟩⟩
         case measure =>
           have hne : ¬ l4 = l1:=fun e => by
             have h1:=HTT.out.more
             have h2:=HTT.out.trail
             rw [e,h1] at h2;cases h2
           have e5 : s.data.toList.drop (intOf (Value.int .i64 (q5 : Int))).toNat = l4:=by simpa [intOf] using HDQ.out
           have e6 : s.data.toList.drop (intOf (Value.int .i64 (q : Int))).toNat = l1:=by simpa [intOf] using HD.out
           rw [if_neg (by rw [e5];exact hne),if_pos e6]
           omega
   · have HWQ := Lib.hid (fun W => show Calls Tryz.prog 33 #[.string s, .int .i64 q, .string ⟨#[116, 114, 97, 105, 108, 101, 114]⟩] W (KWordOut s (some l5) W) from by
       have:=HWT.out q hq W
       rw [HD.out,HTT.out.trail] at this;exact this)
     go_wp2_with fail
     refine (HWQ.out _).mono ?_
     rintro e w2 ⟨⟨z,rfl,hz⟩,hb2⟩
     obtain ⟨q5,rfl,hq5,hd5⟩:=hz _ rfl
     have HI2:=HI.step hb2
     have HD5:=Lh hd5
     clear HI hb2 hz hd5 HWQ
     go_wp2_with fail
     refine (HOB.out q5 hq5 HD5.out _).mono ?_
     rintro e w3 ⟨p1,n1,c1,p2,n2,c2,q6,rfl,hq6,hd6,hO,hb3⟩
     have HI3:=HI2.step hb3
     obtain ⟨p1',c1',p2',c2',e0⟩:=hO.form2
     obtain ⟨rfl,rfl⟩ : n1 = t.keys.length ∧ n2 = t.kids.length:=by
       unfold objCells at e0
       simp only [List.cons.injEq,Value.slice.injEq,and_true,true_and] at e0
       exact ⟨e0.1.2.1,e0.2.2.1⟩
     clear e0
     have hzb:=hb3.size
     have HKL:=Lh (fun (key : L) (hab : key ∉ t.keys) (W : World) (hW : ∀ b,w2.heap.size ≤ b → b < w3.heap.size → W.heap[b]? = w3.heap[b]?) (hz : w3.heap.size ≤ W.heap.size) => kleads (fun b => w2.heap.size ≤ b ∧ b < w3.heap.size) 24 W t p1 p2 t.keys.length c1 t.kids.length c2 key
       ((hO.weaken (S':=fun b => w2.heap.size ≤ b ∧ b < w3.heap.size) (fun b h1 h2 => ⟨h1,h2⟩) 25).kept (fun b h => hW b h.1 h.2) 25) (fun b h => Nat.lt_of_lt_of_le h.2 hz) h7 rfl hkl hab hk2)
     have HO:=Lh hO
     obtain ⟨sv,hS3,hr3⟩:=HI3.sec
     have hz3:=HI3.size
     have hz2:=HI2.size
     obtain ⟨x0,x1,x2,x3,x4,x5,x6,x7,x8,x9,x10,xf⟩:=eleven_of hS3
     have e7 : (t.kind != 7) = false:=by simp [h7]
     have HP12:=Lh (And.intro hp1 hp2)
     generalize hK : t.kind = K at *
     subst h7
     go_upto_region 25 with fail
     obtain ⟨w4,hw4⟩ : ∃ w4,w3.alloc (.cells #[.int .i64 7,.int .i64 t.n,.int .i64 t.g,.string ⟨t.s.toArray⟩,.slice p1 t.keys.length c1,.slice p2 t.kids.length c2] 26) = w4:=⟨_,rfl⟩
     rw [hw4]
     have hb34 : Below w3.heap.size w3 w4:=by rw [← hw4];exact belr
     have O4 : w4.heap[w3.heap.size]? = some (.cells #[.int .i64 7,.int .i64 t.n,.int .i64 t.g,.string ⟨t.s.toArray⟩,.slice p1 t.keys.length c1,.slice p2 t.kids.length c2] 26 (0,0)):=by rw [← hw4];exact heap_new_at _ _ _ rfl
     have hz4 : w4.heap.size = w3.heap.size + 1:=by rw [← hw4];simp
     have hS4:=(hb34.block _ (by omega)).trans hS3
     clear hw4 x0 x1 x2 x3 x4 x5 x6 x7 x8 x9 x10 xf
     obtain ⟨x0,x1,x2,x3,x4,x5,x6,x7,x8,x9,x10,xf⟩:=eleven_of hS4
     obtain ⟨y0,y1,y2,y3,y4,y5,yf⟩:=six_of O4
     have ne1 : ¬ w.heap.size + 1 = w3.heap.size:=by omega
     have ne2 : ¬ w3.heap.size = w.heap.size + 1:=by omega
     go_wp2_with fail
     obtain ⟨w5,hw5⟩ : ∃ w5,(((((w4.setCell ⟨w.heap.size + 1,2,none⟩ (.int .i64 7)).setCell ⟨w.heap.size + 1,3,none⟩ (.int .i64 t.n)).setCell ⟨w.heap.size + 1,4,none⟩ (.int .i64 t.g)).setCell ⟨w.heap.size + 1,5,none⟩ (.string ⟨t.s.toArray⟩)).setCell ⟨w.heap.size + 1,6,none⟩ (.slice p1 t.keys.length c1)).setCell ⟨w.heap.size + 1,7,none⟩ (.slice p2 t.kids.length c2) = w5:=⟨_,rfl⟩
     rw [hw5]
     have hS5 : w5.heap[w.heap.size + 1]? = some (.cells #[.int .i64 a,sv,.int .i64 7,.int .i64 t.n,.int .i64 t.g,.string ⟨t.s.toArray⟩,.slice p1 t.keys.length c1,.slice p2 t.kids.length c2,.int .i64 0,.int .i64 0,.int .i64 0] 42 (0,0)):=by
       rw [← hw5,set_any (set_any (set_any (set_any (set_any (set_any hS4)))))];rfl
     have hk5 : ∀ b,b ≠ w.heap.size + 1 → w5.heap[b]? = w4.heap[b]?:=fun b hb => by
       rw [← hw5,Below.heap_setCell _ _ _ _ hb,Below.heap_setCell _ _ _ _ hb,Below.heap_setCell _ _ _ _ hb,Below.heap_setCell _ _ _ _ hb,Below.heap_setCell _ _ _ _ hb,Below.heap_setCell _ _ _ _ hb]
     have hz5 : w5.heap.size = w4.heap.size:=by rw [← hw5];simp [World.setCell]
     have hg5 : Below w.heap.size w4 w5:=by rw [← hw5];exact (((((((Below.refl _ w4).setCell (by show w.heap.size ≤ w.heap.size + 1;omega) _).setCell (by show w.heap.size ≤ w.heap.size + 1;omega) _).setCell (by show w.heap.size ≤ w.heap.size + 1;omega) _).setCell (by show w.heap.size ≤ w.heap.size + 1;omega) _).setCell (by show w.heap.size ≤ w.heap.size + 1;omega) _).setCell (by show w.heap.size ≤ w.heap.size + 1;omega) _)
     clear hw5 x0 x1 x2 x3 x4 x5 x6 x7 x8 x9 x10 xf y0 y1 y2 y3 y4 y5 yf hS4
     refine (HKL.out _ HP12.out.1 w5 (fun b h1 h2 => (hk5 b (by omega)).trans (hb34.block b h2)) (by omega)).mono ?_
     rintro e w6 ⟨rfl,hb6⟩
     have hz6:=hb6.size
     have hS6:=(hb6.block _ (by omega)).trans hS5
     have O6:=(hb6.block _ (by omega)).trans ((hk5 _ (by omega)).trans O4)
     obtain ⟨x0,x1,x2,x3,x4,x5,x6,x7,x8,x9,x10,xf⟩:=eleven_of hS6
     obtain ⟨y0,y1,y2,y3,y4,y5,yf⟩:=six_of O6
     go_wp2_with fail
     obtain ⟨w7,hw7⟩ : ∃ w7,w6.setCell ⟨w.heap.size + 1,8,none⟩ (.int .i64 (-1)) = w7:=⟨_,rfl⟩
     rw [hw7]
     have hS7 : w7.heap[w.heap.size + 1]? = some (.cells #[.int .i64 a,sv,.int .i64 7,.int .i64 t.n,.int .i64 t.g,.string ⟨t.s.toArray⟩,.slice p1 t.keys.length c1,.slice p2 t.kids.length c2,.int .i64 (-1),.int .i64 0,.int .i64 0] 42 (0,0)):=by
       rw [← hw7,set_any hS6];rfl
     have hk7 : ∀ b,b ≠ w.heap.size + 1 → w7.heap[b]? = w6.heap[b]?:=fun b hb => by
       rw [← hw7,Below.heap_setCell _ _ _ _ hb]
     have hz7 : w7.heap.size = w6.heap.size:=by rw [← hw7];simp [World.setCell]
     have hg7 : Below w.heap.size w6 w7:=by rw [← hw7];exact (Below.refl _ w6).setCell (by show w.heap.size ≤ w.heap.size + 1;omega) _
     clear hw7 x0 x1 x2 x3 x4 x5 x6 x7 x8 x9 x10 xf y0 y1 y2 y3 y4 y5 yf hS5 hS6
     have hkall : ∀ b,b ≠ w.heap.size + 1 → b < w3.heap.size → w7.heap[b]? = w3.heap[b]?:=fun b h1 h2 => (hk7 b h1).trans ((hb6.block b (by omega)).trans ((hk5 b h1).trans (hb34.block b h2)))
     refine (HKL.out _ HP12.out.2 w7 (fun b h1 h2 => hkall b (by omega) h2) (by omega)).mono ?_
     rintro e w8 ⟨rfl,hb8⟩
     have hz8:=hb8.size
     have hS8:=(hb8.block _ (by omega)).trans hS7
     have hR8:=(hb8.block w.heap.size (by omega)).trans ((hkall w.heap.size (by omega) (by omega)).trans HI3.res)
     have hkal8 : ∀ b,b ≠ w.heap.size + 1 → b < w3.heap.size → w8.heap[b]? = w3.heap[b]?:=fun b h1 h2 => (hb8.block b (by omega)).trans (hkall b h1 h2)
     have hbw8 : Below w.heap.size w w8:=HI3.below.trans ((hb34.mono HI3.below.size).trans (hg5.trans ((hb6.mono (by omega)).trans (hg7.trans (hb8.mono (by omega))))))
     obtain ⟨x0,x1,x2,x3,x4,x5,x6,x7,x8,x9,x10,xf⟩:=eleven_of hS8
     obtain ⟨r0,r1,r2,r3,r4,r5,r6,r7,r8,r9,r10,rf⟩:=eleven_of hR8
     have HR3:=Lh hr3
     obtain ⟨sp,sc,rfl⟩:=rown_slice hr3
     clear hr3 hkall hS7 hb8 hg7 hg5 hb6 hb34
     have n1 : ¬ w.heap.size = w.heap.size + 1:=by omega
     have n2 : ¬ w.heap.size + 1 = w.heap.size:=by omega
     have HNL:=HNN.out
     have key : ∀ W' : World,(∀ b,b ≠ w.heap.size → b ≠ w.heap.size + 1 → b < w3.heap.size → W'.heap[b]? = w3.heap[b]?) → w3.heap.size ≤ W'.heap.size → RArg slE W' (.slice sp acc.length sc) acc ∧ ObjAt (fun b => w.heap.size ≤ b) 25 W' (objCells t.kind t.n t.g t.s (.slice p1 t.keys.length c1) (.slice p2 t.kids.length c2)) t:=by
       intro W' hW hz
       constructor
       · refine rownS.arg (t:=48) (B:=w.heap.size + 2) ?_
         rcases HR3.out with ⟨h0,h1 | ⟨g,cap,cur,h1,h2,h3,h4⟩⟩
         · exact ⟨h0,.inl h1⟩
         · exact ⟨h0,.inr ⟨g,cap,cur,h1,h2,(hW g (by omega) (by omega) (Array.getElem?_eq_some_iff.1 h3).1).trans h3,h4⟩⟩
       · rw [hK]
         exact ((HO.out.weaken (S':=fun b => w2.heap.size ≤ b ∧ b < w3.heap.size) (fun b h1 h2 => ⟨h1,h2⟩) 25).kept (fun b h => hW b (by omega) (by omega) h.2) 25).weaken (fun b h _ => by omega) 25
     have HKEY:=Lh key
     have HK7:=Lh hK
     clear key hK
     go_wp2
     refine bodyPost_ret (v:=.tuple #[.agg #[.int .i64 a,.slice sp N sc,.int .i64 7,.int .i64 t.n,.int .i64 t.g,.string ⟨t.s.toArray⟩,.slice p1 t.keys.length c1,.slice p2 t.kids.length c2,.int .i64 (-1),.int .i64 (-1),.int .i64 0],.int .i64 q6,.int .i64 0]) (by simp [results,Tryz.results14,go_sem,r0,r1,r2,r3,r4,r5,r6,r7,r8,r9,r10,rf,x0,x1,x2,x3,x4,x5,x6,x7,x8,x9,x10,xf,n1,n2]) rfl ?_
     refine ⟨sp,sc,p1,c1,p2,t.kids.length,c2,q6,by rw [HK7.out],?_⟩
     rw [← HNL]
     refine ⟨(HKEY.out _ ?_ ?_).1,(HKEY.out _ ?_ ?_).2,?_⟩
     · intro b h1 h2 h3
       rw [r18keep _ w.heap.size b _ _ h1,r18keep _ w.heap.size b _ _ h1,r18keep _ w.heap.size b _ _ h1,r18keep _ w.heap.size b _ _ h1,r18keep _ w.heap.size b _ _ h1,r18keep _ w.heap.size b _ _ h1,r18keep _ w.heap.size b _ _ h1,r18keep _ w.heap.size b _ _ h1,r18keep _ w.heap.size b _ _ h1,r18keep _ w.heap.size b _ _ h1,r18keep _ w.heap.size b _ _ h1,r18keep _ (w.heap.size + 1) b _ _ h2]
       exact hkal8 b h2 h3
     · rw [r18size,r18size,r18size,r18size,r18size,r18size,r18size,r18size,r18size,r18size,r18size,r18size];omega
     · intro b h1 h2 h3
       rw [r18keep _ w.heap.size b _ _ h1,r18keep _ w.heap.size b _ _ h1,r18keep _ w.heap.size b _ _ h1,r18keep _ w.heap.size b _ _ h1,r18keep _ w.heap.size b _ _ h1,r18keep _ w.heap.size b _ _ h1,r18keep _ w.heap.size b _ _ h1,r18keep _ w.heap.size b _ _ h1,r18keep _ w.heap.size b _ _ h1,r18keep _ w.heap.size b _ _ h1,r18keep _ w.heap.size b _ _ h1,r18keep _ (w.heap.size + 1) b _ _ h2]
       exact hkal8 b h2 h3
     · rw [r18size,r18size,r18size,r18size,r18size,r18size,r18size,r18size,r18size,r18size,r18size,r18size];omega
     · refine r18below (Nat.le_refl _) (r18below (Nat.le_refl _) (r18below (Nat.le_refl _) (r18below (Nat.le_refl _) (r18below (Nat.le_refl _) (r18below (Nat.le_refl _) (r18below (Nat.le_refl _) (r18below (Nat.le_refl _) (r18below (Nat.le_refl _) (r18below (Nat.le_refl _) (r18below (Nat.le_refl _) (r18below (B:=w.heap.size + 1) (Nat.le_succ _) ?_)))))))))))
       exact hbw8
theorem rget_yes (S : Nat → Prop) (d : Nat) (w : World) (o : Ob) (p1 p2 : Option Addr) (n1 c1 c2 : Nat) (key : L) (j : Nat) (hO : ObjAt S (d + 1) w (objCells o.kind o.n o.g o.s (.slice p1 n1 c1) (.slice p2 n1 c2)) o) (hS : ∀ b, S b → b < w.heap.size) (h7 : o.kind = 7) (hn1 : o.keys.length = n1) (hn2 : o.kids.length = n1) (hl : n1 ≤ 8192)
   (hj : j < n1) (hjk : o.keys.getD j [] = key) (hbf : ∀ i,i < j → o.keys.getD i [] ≠ key) (hkl : ∀ x ∈ o.keys,x.length ≤ 1000000) (y : Ob) (hy : o.kids.getD j .zero = y) :
   Calls Tryz.prog 72 #[.agg #[.int .i64 o.kind,.int .i64 o.n,.int .i64 o.g,.string ⟨o.s.toArray⟩,.slice p1 n1 c1,.slice p2 n1 c2],.string ⟨key.toArray⟩] w fun e w' => ∃ y1 t1 u1 y2 t2 u2,e = .returned (.tuple #[.agg #[.int .i64 y.kind,.int .i64 y.n,.int .i64 y.g,.string ⟨y.s.toArray⟩,.slice y1 t1 u1,.slice y2 t2 u2],.bool true]) ∧ Below w.heap.size w w':=by
 obtain ⟨kv,dv,hcs,hK0,hR0⟩:=hO
 have hR : RowAt S d w (.slice p2 n1 c2) o.kids:=by
   simp [objCells] at hcs;rw [hcs.2];exact hR0
 have hK : KeysAt S w (.slice p1 n1 c1) o.keys:=by
   simp [objCells] at hcs;rw [hcs.1];exact hK0
 clear hR0 hcs hK0
 have HK:=Lh (And.intro hK (And.intro hS (And.intro hn1 (And.intro hjk hbf))))
 have HR:=Lh (And.intro hR (And.intro hn2 hy))
 clear hR hK hS hn1 hn2 hkl hjk hbf hy
 generalize o.kind = K at h7 ⊢
 subst h7
 go_enter Tryz.func72,Tryz.ntmps72
 go_wp2
 go_loopw [20] (fun i wr => ∃ k : Nat,k ≤ j ∧ i = .int .i64 k ∧ Below w.heap.size w wr ∧ w.heap.size + 2 ≤ wr.heap.size ∧ wr.heap[w.heap.size + 1]? = some (.cells #[.int .i64 0,.int .i64 0,.int .i64 0,.string ⟨#[]⟩,.slice none 0 0,.slice none 0 0] 26 (0,0)) ∧ wr.heap[w.heap.size]? = some (.cells #[.int .i64 7,.int .i64 o.n,.int .i64 o.g,.string ⟨o.s.toArray⟩,.slice p1 n1 c1,.slice p2 n1 c2] 26 (0,0))) (fun i _ => n1 - (intOf i).toNat)
 case atStart => exact ⟨0,Nat.zero_le _,rfl,bel,by simp,heap_new_at _ _ _ (by simp),(Below.heap_alloc _ _ _ (by simp)).trans (heap_new_at _ _ _ rfl)⟩
 case round =>
   obtain ⟨k,hk,rfl,hbr,hzr,hG,hG0⟩:=hrel
   have hlk : k < n1:=by omega
   have hKw : KeysAt S wr (.slice p1 n1 c1) o.keys:=HK.out.1.kept (fun b h => hbr.block b (HK.out.2.1 b h))
   obtain ⟨b1,f1,rfl⟩ : ∃ b off,p1 = some ⟨b,off,none⟩:=by
     rcases hKw with ⟨e,_⟩ | ⟨b,off,c,e,_⟩
     · have:=HK.out.2.2.1;rw [e] at this;simp at this;omega
     · cases e;exact ⟨_,_,rfl⟩
   obtain ⟨s1,g1⟩:=key_at hKw HK.out.2.2.1 k hlk
   by_cases hkj : k < j
   · have hne : (o.keys.getD k [] == key) = false := by
       rw [beq_eq_false_iff_ne]
       exact HK.out.2.2.2.2 k hkj
     obtain ⟨x,hx⟩ : ∃ x,o.keys.getD k [] = x:=⟨_,rfl⟩
     rw [hx] at g1 hne
     clear hKw hx
     go_wp2
     go_roundw
     case rel => exact ⟨k + 1,by omega,by go_num,hbr,hzr,hG,hG0⟩
     case measure => simp [intOf];omega
   · obtain rfl : k = j:=by omega
     have hRw : RowAt S d wr (.slice p2 n1 c2) o.kids:=HR.out.1.kept (fun b h => hbr.block b (HK.out.2.1 b h))
     obtain ⟨b2,f2,rfl⟩ : ∃ b off,p2 = some ⟨b,off,none⟩:=by
       rcases hRw with ⟨e,_⟩ | ⟨b,off,c,e,_⟩
       · have:=HR.out.2.1;rw [e] at this;simp at this;omega
       · cases e;exact ⟨_,_,rfl⟩
     obtain ⟨y',y1,t1,u1,y2,t2,u2,hy,hym,s2,O1,r0,r1,r2,r3,r4,r5⟩:=row_kid hRw HR.out.2.1 k hlk
     obtain rfl : y' = y:=hy.symm.trans HR.out.2.2
     rw [HK.out.2.2.2.1] at g1
     have hkk : (key == key) = true:=by simp
     obtain ⟨b0,b1',b2',b3,b4,b5,bf⟩:=six_of hG
     obtain ⟨z0,z1,z2,z3,z4,z5,zf⟩:=six_of hG0
     have v2 : decide ((k : Int) ≥ (n1 : Int)) = false:=by simp;omega
     clear hKw hRw hy hym O1
     go_wp2
     refine bodyPost_ret (v:=.tuple #[.agg #[.int .i64 y'.kind,.int .i64 y'.n,.int .i64 y'.g,.string ⟨y'.s.toArray⟩,.slice y1 t1 u1,.slice y2 t2 u2],.bool true]) (by simp [results,Tryz.results72,go_sem,b0,b1',b2',b3,b4,b5,bf]) rfl ⟨y1,t1,u1,y2,t2,u2,rfl,bel⟩
theorem ksize (S : Nat → Prop) (d : Nat) (w : World) (o : Ob) (p1 p2 : Option Addr) (n1 c1 c2 : Nat) (j m : Nat) (hO : ObjAt S (d + 1) w (objCells o.kind o.n o.g o.s (.slice p1 n1 c1) (.slice p2 n1 c2)) o) (hS : ∀ b, S b → b < w.heap.size) (h7 : o.kind = 7) (hn1 : o.keys.length = n1) (hn2 : o.kids.length = n1) (hl : n1 ≤ 8192)
   (hj : j < n1) (hjk : o.keys.getD j [] = wLength) (hbf : ∀ i,i < j → o.keys.getD i [] ≠ wLength) (hkl : ∀ x ∈ o.keys,x.length ≤ 1000000) (hm : o.kids.getD j .zero = .int m) (hm2 : m ≤ 1048576) :
   Calls Tryz.prog 76 #[.agg #[.int .i64 o.kind,.int .i64 o.n,.int .i64 o.g,.string ⟨o.s.toArray⟩,.slice p1 n1 c1,.slice p2 n1 c2],.int .i64 (-1)] w fun e w' => e = .returned (.tuple #[.int .i64 m,.int .i64 0]) ∧ Below w.heap.size w w':=by
 have HG:=Lh (fun (W : World) (hW : Below w.heap.size w W) => (show Calls Tryz.prog 72 #[.agg #[.int .i64 o.kind,.int .i64 o.n,.int .i64 o.g,.string ⟨o.s.toArray⟩,.slice p1 n1 c1,.slice p2 n1 c2],.string ⟨#[76,101,110,103,116,104]⟩] W (fun e w' => ∃ y1 t1 u1 y2 t2 u2,e = .returned (.tuple #[.agg #[.int .i64 2,.int .i64 m,.int .i64 0,.string ⟨#[]⟩,.slice y1 t1 u1,.slice y2 t2 u2],.bool true]) ∧ Below W.heap.size W w') from by
   have:=rget_yes S d W o p1 p2 n1 c1 c2 wLength j (hO.kept (fun b h => hW.block b (hS b h)) _) (fun b h => Nat.lt_of_lt_of_le (hS b h) hW.size) h7 hn1 hn2 hl hj hjk hbf hkl _ hm
   exact this))
 clear hO hS h7 hn1 hn2 hl hj hjk hbf hkl hm
 have e0 : decide ((m : Int) < 0) = false:=by simp
 go_enter Tryz.func76,Tryz.ntmps76
 go_wp2_with fail
 refine (HG.out _ bel).mono ?_
 rintro e w1 ⟨y1,t1,u1,y2,t2,u2,rfl,hb1⟩
 have hz1:=hb1.size
 simp at hz1
 go_wp2
 go_ret2
 exact ⟨rfl,bel⟩
def W8Out (s : ByteArray) (R : Option L) (w : World) (e : Ending) (w' : World) : Prop:=match R with
 | some rest => ∃ q : Nat,e = .returned (.tuple #[.int .i64 q,.int .i64 0]) ∧ q ≤ s.size ∧ s.data.toList.drop q = rest ∧ Below w.heap.size w w'
 | none => ∃ k : Int,k ≠ 0 ∧ e = .returned (.tuple #[.int .i64 0,.int .i64 k]) ∧ Below w.heap.size w w'
theorem k8word (s : ByteArray) (a : Nat) (x : L) (ha : a ≤ s.size) (hs : s.size ≤ 140737488355327) (w : World) :
   Calls Tryz.prog 43 #[.string s,.int .i64 a,.string ⟨x.toArray⟩] w (W8Out s (wordR (s.data.toList.drop a) x) w):=by
 cases hn : (nextT (s.data.toList.drop a)).2 with
 | bad k =>
   have HR:=Lh (show wordR (s.data.toList.drop a) x = none by unfold wordR;rw [hn])
   have HN:=Lh (fun W => rnext_err s a k hn ha hs W)
   have hk : (k != 0) = true:=by have:=nextT_bad hn;simp;omega
   have hk0 : k ≠ 0:=by have:=nextT_bad hn;omega
   rw [HR.out]
   clear hn
   go_enter Tryz.func43,Tryz.ntmps43
   go_wp2_with fail
   refine (HN.out _).mono ?_
   rintro e w1 ⟨rfl,hb1⟩
   have hz1:=hb1.size
   go_wp2
   go_ret2
   exact ⟨k,hk0,rfl,bel⟩
 | good t =>
   obtain ⟨p,q,hq,hd,hN⟩:=next_facts s a ha hs t hn
   have HN:=Lh hN
   have HQ:=Lh hq
   have hR : wordR (s.data.toList.drop a) x = if t.kind = 5 ∧ t.s = x then some (s.data.toList.drop q) else none:=by unfold wordR;rw [hn];dsimp only;rw [hd]
   cases h0 : (t.kind == 0)
   · cases h5 : (t.kind == 5)
     · have HR:=Lh (show wordR (s.data.toList.drop a) x = none by rw [hR,if_neg (fun h => by simp [h.1] at h5)])
       have h5' : (t.kind != 5) = true:=by simpa using h5
       rw [HR.out]
       clear hn hN hq hd hR
       go_enter Tryz.func43,Tryz.ntmps43
       go_wp2_with fail
       refine (HN.out _).mono ?_
       rintro e w1 ⟨rfl,hb1⟩
       have hz1:=hb1.size
       go_wp2
       go_ret2
       exact ⟨3,by decide,rfl,bel⟩
     · have h5' : (t.kind != 5) = false:=by simpa using h5
       cases hx : (t.s == x)
       · have HR:=Lh (show wordR (s.data.toList.drop a) x = none by rw [hR,if_neg (fun h => by simp [h.2] at hx)])
         rw [HR.out]
         clear hn hN hq hd hR
         go_enter Tryz.func43,Tryz.ntmps43
         go_wp2_with fail
         refine (HN.out _).mono ?_
         rintro e w1 ⟨rfl,hb1⟩
         have hz1:=hb1.size
         go_wp2
         go_ret2
         exact ⟨3,by decide,rfl,bel⟩
       · have HR:=Lh (show wordR (s.data.toList.drop a) x = some (s.data.toList.drop q) by rw [hR,if_pos ⟨by simpa using h5,by simpa using hx⟩])
         rw [HR.out]
         clear hn hN hq hd hR
         go_enter Tryz.func43,Tryz.ntmps43
         go_wp2_with fail
         refine (HN.out _).mono ?_
         rintro e w1 ⟨rfl,hb1⟩
         have hz1:=hb1.size
         go_wp2
         go_ret2
         exact ⟨q,rfl,HQ.out,rfl,bel⟩
   · have HR:=Lh (show wordR (s.data.toList.drop a) x = none by rw [hR,if_neg (fun h => by simp [h.1] at h0)])
     rw [HR.out]
     clear hn hN hq hd hR
     go_enter Tryz.func43,Tryz.ntmps43
     go_wp2_with fail
     refine (HN.out _).mono ?_
     rintro e w1 ⟨rfl,hb1⟩
     have hz1:=hb1.size
     go_wp2
     go_ret2
     exact ⟨4,by decide,rfl,bel⟩
theorem k8number (s : ByteArray) (a : Nat) (lo hi n : Int) (rest : L) (ha : a ≤ s.size) (hs : s.size ≤ 140737488355327) (hR : numR (s.data.toList.drop a) lo hi = some (n, rest)) (hlo : -1000000 ≤ lo) (hhi : hi ≤ 1000000) (w : World) :
   Calls Tryz.prog 74 #[.string s,.int .i64 a,.int .i64 lo,.int .i64 hi] w fun e w' => ∃ q : Nat,e = .returned (.tuple #[.int .i64 n,.int .i64 q,.int .i64 0]) ∧ q ≤ s.size ∧ s.data.toList.drop q = rest ∧ Below w.heap.size w w':=by
 unfold numR at hR
 cases hn : (nextT (s.data.toList.drop a)).2 with
 | bad k => rw [hn] at hR;cases hR
 | good t =>
   rw [hn] at hR
   dsimp only at hR
   by_cases hc : t.kind = 1 ∧ lo ≤ t.n ∧ t.n ≤ hi
   · rw [if_pos hc] at hR
     obtain ⟨p,q,hq,hd,hN⟩:=next_facts s a ha hs t hn
     cases hR
     have HN:=Lh hN
     have HQ:=Lh (And.intro hq hd)
     have e0 : (t.kind == 0) = false:=by simp [hc.1]
     have e1 : (t.kind != 1) = false:=by simp [hc.1]
     have e2 : decide (t.n < lo) = false:=by simp;omega
     have e3 : decide (t.n > hi) = false:=by simp;omega
     have wn : IntKind.i64.wrap t.n = t.n:=IntWalk.i64_in _ (by omega)
     clear hn hN hq hd hc
     go_enter Tryz.func74,Tryz.ntmps74
     go_wp2_with fail
     refine (HN.out _).mono ?_
     rintro e w1 ⟨rfl,hb1⟩
     have hz1:=hb1.size
     go_wp2_with fail
     go_quiet (fail)
     go_wp2
     go_ret3
     exact ⟨q,rfl,HQ.out.1,HQ.out.2,bel⟩
   · rw [if_neg hc] at hR;cases hR
theorem k8head (s : ByteArray) (a : Nat) (num gen : Int) (l1 l2 l3 : L) (ha : a ≤ s.size) (hs : s.size ≤ 140737488355327) (h1 : numR (s.data.toList.drop a) 1 8191 = some (num, l1)) (h2 : numR l1 0 65535 = some (gen, l2)) (h3 : wordR l2 wordObj = some l3) (w : World) :
   Calls Tryz.prog 42 #[.string s,.int .i64 a] w fun e w' => ∃ q : Nat,e = .returned (.tuple #[.int .i64 num,.int .i64 gen,.int .i64 q,.int .i64 0]) ∧ q ≤ s.size ∧ s.data.toList.drop q = l3 ∧ Below w.heap.size w w':=by
 have HN1:=Lh (fun W => k8number s a 1 8191 num l1 ha hs h1 (by decide) (by decide) W)
 have HN2:=Lh (fun (q : Nat) (hq : q ≤ s.size) (hd : s.data.toList.drop q = l1) W => k8number s q 0 65535 gen l2 hq hs (by rw [hd];exact h2) (by decide) (by decide) W)
 have HW:=Lh (fun (q : Nat) (hq : q ≤ s.size) (hd : s.data.toList.drop q = l2) W => (show Calls Tryz.prog 43 #[.string s,.int .i64 q,.string ⟨#[111,98,106]⟩] W (W8Out s (some l3) W) from by rw [← h3,← hd];exact k8word s q wordObj hq hs W))
 have e1 : decide ((a : Int) < 0) = false:=by simp
 have e2 : decide ((a : Int) > s.size) = false:=by simp;omega
 clear h1 h2 h3
 go_enter Tryz.func42,Tryz.ntmps42
 go_wp2_with fail
 refine (HN1.out _).mono ?_
 rintro e w1 ⟨q1,rfl,hq1,hd1,hb1⟩
 go_wp2_with fail
 refine (HN2.out q1 hq1 hd1 _).mono ?_
 rintro e w2 ⟨q2,rfl,hq2,hd2,hb2⟩
 go_wp2_with fail
 refine (HW.out q2 hq2 hd2 _).mono ?_
 rintro e w3 ⟨q3,rfl,hq3,hd3,hb3⟩
 have hbw:=hb1.trans ((hb2.mono hb1.size).trans (hb3.mono (Nat.le_trans hb1.size hb2.size)))
 clear hd1 hd2
 have HD:=Lh hd3
 clear hd3
 go_wp2
 refine bodyPost_ret (v:=.tuple #[.int .i64 num,.int .i64 gen,.int .i64 q3,.int .i64 0]) (by simp [results,Tryz.results42,go_sem]) rfl ⟨q3,rfl,hq3,HD.out,hbw⟩
theorem k8begin (s : ByteArray) (a : Nat) (rest : L) (ha : a ≤ s.size) (hs : s.size ≤ 140737488355327) (hd : s.data.toList.drop a = 10 :: rest) (w : World) :
   Calls Tryz.prog 75 #[.string s,.int .i64 a] w fun e w' => e = .returned (.tuple #[.int .i64 ((a + 1 : Nat) : Int),.int .i64 0]) ∧ w' = w:=by
 have hl : a < s.size:=by
   have:=congrArg List.length hd
   simp at this
   have h2 : s.data.size = s.size:=rfl
   omega
 have hc : s[a] = 10:=by
   have:=drop_get s a hl
   rw [hd] at this
   exact (List.cons.inj this).1.symm
 have e1 : ((a : Int) == s.size) = false:=by simp;omega
 have hx : ((s.extract a s.size).toList == [13]) = false:=by
   rw [Lib.toList_data,Lib.extract_data,beq_eq_false_iff_ne]
   rw [List.take_of_length_le (by simp),hd]
   intro h
   cases h
 clear hd
 go_enter Tryz.func75,Tryz.ntmps75
 go_wp2
 go_ret2
 exact ⟨rfl,rfl⟩
theorem kdrop (S : Nat → Prop) (d : Nat) (w : World) (o : Ob) (p1 p2 : Option Addr) (n1 c1 c2 : Nat) (key : L) (hO : ObjAt S (d + 1) w (objCells o.kind o.n o.g o.s (.slice p1 n1 c1) (.slice p2 n1 c2)) o) (hS : ∀ b, S b → b < w.heap.size) (h7 : o.kind = 7) (hn1 : o.keys.length = n1) (hn2 : o.kids.length = n1) (hl : n1 ≤ 8192)
   (hsm : smallO (d + 1) o) (hc : checkB 24 o = 0) :
   Calls Tryz.prog 77 #[.agg #[.int .i64 o.kind,.int .i64 o.n,.int .i64 o.g,.string ⟨o.s.toArray⟩,.slice p1 n1 c1,.slice p2 n1 c2],.string ⟨key.toArray⟩] w fun e w' => ∃ q1 e1 m1 q2 e2 m2,e = .returned (.agg #[.int .i64 o.kind,.int .i64 o.n,.int .i64 o.g,.string ⟨o.s.toArray⟩,.slice q1 e1 m1,.slice q2 e2 m2]) ∧
     ObjAt (fun b => w.heap.size ≤ b ∨ S b) (d + 1) w' (objCells o.kind o.n o.g o.s (.slice q1 e1 m1) (.slice q2 e2 m2)) (dropO o key) ∧ Below w.heap.size w w':=by
 have HC:=Lh (fun (W : World) (hW : Below w.heap.size w W) => (show Calls Tryz.prog 41 #[.agg #[.int .i64 o.kind,.int .i64 o.n,.int .i64 o.g,.string ⟨o.s.toArray⟩,.slice p1 n1 c1,.slice p2 n1 c2]] W (fun e w' => e = .returned (.int .i64 0) ∧ Below W.heap.size W w') from by
   have:=Check_in S (d + 1) W _ o (hO.kept (fun b h => hW.block b (hS b h)) _) hsm (fun b h => Nat.lt_of_lt_of_le (hS b h) hW.size) (check_in S 24 (Nat.le_refl _))
   rw [hc] at this
   exact this))
 have HW:=Lh (fun (W : World) (hW : Below w.heap.size w W) => rwithout S d W o p1 p2 n1 c1 n1 c2 key (hO.kept (fun b h => hW.block b (hS b h)) _) (fun b h => Nat.lt_of_lt_of_le (hS b h) hW.size) hn1 hn2 rfl hl)
 have HS:=Lh hS
 clear hO hS hn1 hn2 hl hsm hc
 generalize o.kind = K at h7 HC HW ⊢
 subst h7
 go_enter Tryz.func77,Tryz.ntmps77
 go_wp2_with fail
 refine (HC.out _ bel).mono ?_
 rintro e w1 ⟨rfl,hb1⟩
 have hz1:=hb1.size
 simp at hz1
 have hbw1 : Below w.heap.size w w1:=bel
 have A1:=(hb1.block _ (by simp;omega)).trans ((Below.heap_alloc _ _ _ (by simp)).trans (heap_new_at w (.cells #[.int .i64 7,.int .i64 o.n,.int .i64 o.g,.string ⟨o.s.toArray⟩,.slice p1 n1 c1,.slice p2 n1 c2] 26) _ rfl))
 have B1:=(hb1.block _ (by simp)).trans (heap_new_at (w.alloc (.cells #[.int .i64 7,.int .i64 o.n,.int .i64 o.g,.string ⟨o.s.toArray⟩,.slice p1 n1 c1,.slice p2 n1 c2] 26)) (.cells #[.int .i64 0,.int .i64 0,.int .i64 0,.string ⟨#[]⟩,.slice none 0 0,.slice none 0 0] 26) (w.heap.size + 1) (by simp))
 obtain ⟨a0,a1,a2,a3,a4,a5,af⟩:=six_of A1
 go_wp2_with fail
 refine (HW.out _ hbw1).mono ?_
 rintro e w2 ⟨q1,e1,m1,q2,e2,m2,rfl,hD,hb2⟩
 have hbw2 : Below w.heap.size w w2:=hbw1.trans (hb2.mono hbw1.size)
 have B2:=(hb2.block _ (by omega)).trans B1
 have hz2:=hb2.size
 have HD:=Lh (hD.weaken (S':=fun b => w.heap.size + 2 ≤ b ∨ S b) (fun b h _ => h.elim (fun h => .inl (by omega)) .inr) (d + 1))
 clear hD hb1 hb2 a0 a1 a2 a3 a4 a5 af
 obtain ⟨b0,b1,b2,b3,b4,b5,bf⟩:=six_of B2
 go_wp2
 refine bodyPost_ret (v:=.agg #[.int .i64 7,.int .i64 o.n,.int .i64 o.g,.string ⟨o.s.toArray⟩,.slice q1 e1 m1,.slice q2 e2 m2]) (by simp [results,Tryz.results77,go_sem,b0,b1,b2,b3,b4,b5,bf]) rfl ⟨q1,e1,m1,q2,e2,m2,rfl,?_,?_⟩
 · refine ((HD.out.kept (w':=_) ?_ (d + 1)).weaken (fun b h _ => h.elim (fun h => .inl (by omega)) .inr) (d + 1))
   intro b hb
   have hb2 : b ≠ w.heap.size + 1:=by
     rcases hb with hb | hb
     · omega
     · have:=HS.out b hb;omega
   iterate 6 (refine (Below.heap_setCell _ _ _ _ hb2).trans ?_)
   rfl
 · exact ((((((hbw2.setCell (p:=⟨w.heap.size + 1,0,none⟩) (Nat.le_succ _) _).setCell (p:=⟨w.heap.size + 1,1,none⟩) (Nat.le_succ _) _).setCell (p:=⟨w.heap.size + 1,2,none⟩) (Nat.le_succ _) _).setCell (p:=⟨w.heap.size + 1,3,none⟩) (Nat.le_succ _) _).setCell (p:=⟨w.heap.size + 1,4,none⟩) (Nat.le_succ _) _).setCell (p:=⟨w.heap.size + 1,5,none⟩) (Nat.le_succ _) _)
theorem drop_len {s : ByteArray} {a : Nat} {x y : L} (ha : a ≤ s.size) (hd : s.data.toList.drop a = x ++ y) : a + x.length ≤ s.size ∧ s.data.toList.drop (a + x.length) = y ∧ s.extract a (a + x.length) = ⟨x.toArray⟩:=by
 have hss : s.data.toList.length = s.size:=rfl
 have h1:=congrArg List.length hd
 simp only [List.length_drop,List.length_append,hss] at h1
 refine ⟨by omega,?_,?_⟩
 · rw [← List.drop_drop,hd,List.drop_left]
 · apply ByteArray.ext
   apply Array.toList_inj.1
   have h3 : (s.extract a (a + x.length)).data.toList = (s.data.toList.drop a).take x.length:=by rw [Lib.extract_data];simp
   rw [h3,hd,List.take_left]
theorem stream_obj {S : Nat → Prop} {d : Nat} {w : World} {o : Ob} {kv dv : Value} {ks : List L} {cs : List Ob} {data : L} (h : ObjAt S (d + 1) w (objCells o.kind o.n o.g o.s kv dv) (dropO o wLength)) (hdr : dropO o wLength = .mk 7 0 0 [] ks cs) :
   ObjAt S (d + 1) w (objCells 9 0 0 data kv dv) (.mk 9 0 0 data ks cs):=by
 rw [hdr] at h
 obtain ⟨kv',dv',e,h1,h2⟩:=h
 unfold objCells at e
 simp only [List.cons.injEq,and_true] at e
 obtain ⟨_,_,_,_,rfl,rfl⟩:=e
 exact ⟨_,_,rfl,h1,h2⟩
theorem kstream (S : Nat → Prop) (d : Nat) (w : World) (o : Ob) (p1 p2 : Option Addr) (n1 c1 c2 : Nat) (j m : Nat) (hO : ObjAt S (d + 1) w (objCells o.kind o.n o.g o.s (.slice p1 n1 c1) (.slice p2 n1 c2)) o) (hS : ∀ b, S b → b < w.heap.size) (h7 : o.kind = 7) (hn1 : o.keys.length = n1) (hn2 : o.kids.length = n1) (hl : n1 ≤ 8192)
   (hj : j < n1) (hjk : o.keys.getD j [] = wLength) (hbf : ∀ i,i < j → o.keys.getD i [] ≠ wLength) (hkl : ∀ x ∈ o.keys,x.length ≤ 1000000) (hm : o.kids.getD j .zero = .int m) (hm2 : m ≤ 1048576) (hsm : smallO (d + 1) o) (hc : checkB 24 o = 0)
   (ks : List L) (cs : List Ob) (hdr : dropO o wLength = .mk 7 0 0 [] ks cs) (s : ByteArray) (hs : s.size ≤ 140737488355327) (a : Nat) (ha : a ≤ s.size) (data X rest : L) (hd : s.data.toList.drop a = 10 :: (data ++ X)) (hdm : data.length = m) (hE : wordR X wordEst = some rest) :
   Calls Tryz.prog 44 #[.string s,.int .i64 a,.int .i64 (-1),.agg #[.int .i64 o.kind,.int .i64 o.n,.int .i64 o.g,.string ⟨o.s.toArray⟩,.slice p1 n1 c1,.slice p2 n1 c2]] w fun e w' => ∃ q1 e1 m1 q2 e2 m2 q,e = .returned (.tuple #[.agg #[.int .i64 9,.int .i64 0,.int .i64 0,.string ⟨data.toArray⟩,.slice q1 e1 m1,.slice q2 e2 m2],.int .i64 (q : Nat),.int .i64 0]) ∧ q ≤ s.size ∧ s.data.toList.drop q = rest ∧
     ObjAt (fun b => w.heap.size ≤ b ∨ S b) (d + 1) w' (objCells 9 0 0 data (.slice q1 e1 m1) (.slice q2 e2 m2)) (.mk 9 0 0 data ks cs) ∧ Below w.heap.size w w':=by
 have HB:=Lh (fun W => k8begin s a _ ha hs hd W)
 have hda : s.data.toList.drop (a + 1) = data ++ X:=by rw [← List.drop_drop,hd];rfl
 have hla : a + 1 ≤ s.size:=by
   have:=congrArg List.length hd
   simp at this
   have h2 : s.data.size = s.size:=rfl
   omega
 obtain ⟨hlm,hdx,hex⟩:=drop_len hla hda
 rw [hdm] at hlm hdx hex
 have HZ:=Lh (fun (W : World) (hW : Below w.heap.size w W) => ksize S d W o p1 p2 n1 c1 c2 j m (hO.kept (fun b h => hW.block b (hS b h)) _) (fun b h => Nat.lt_of_lt_of_le (hS b h) hW.size) h7 hn1 hn2 hl hj hjk hbf hkl hm hm2)
 have HDR := Lib.hid (fun (W : World) (hW : Below w.heap.size w W) => (show Calls Tryz.prog 77 #[.agg #[.int .i64 o.kind, .int .i64 o.n, .int .i64 o.g, .string ⟨o.s.toArray⟩, .slice p1 n1 c1, .slice p2 n1 c2], .string ⟨#[76, 101, 110, 103, 116, 104]⟩] W (fun e w' => ∃ q1 e1 m1 q2 e2 m2, e = .returned (.agg #[.int .i64 7, .int .i64 0, .int .i64 0, .string ⟨o.s.toArray⟩, .slice q1 e1 m1, .slice q2 e2 m2]) ∧
     ObjAt (fun b => W.heap.size ≤ b ∨ S b) (d + 1) w' (objCells 9 0 0 data (.slice q1 e1 m1) (.slice q2 e2 m2)) (.mk 9 0 0 data ks cs) ∧ Below W.heap.size W w') from by
   refine (kdrop S d W o p1 p2 n1 c1 c2 wLength (hO.kept (fun b h => hW.block b (hS b h)) _) (fun b h => Nat.lt_of_lt_of_le (hS b h) hW.size) h7 hn1 hn2 hl hsm hc).mono ?_
   rintro e w' ⟨q1,e1,m1,q2,e2,m2,rfl,h1,h2⟩
   have e2 : o.n = 0:=congrArg Ob.n hdr
   have e3 : o.g = 0:=congrArg Ob.g hdr
   exact ⟨q1,_,m1,q2,_,m2,by rw [h7,e2,e3],stream_obj h1 hdr,h2⟩))
 have HWE:=Lh (fun W => show Calls Tryz.prog 43 #[.string s,.int .i64 (a + 1 + m : Nat),.string ⟨#[101,110,100,115,116,114,101,97,109]⟩] W (W8Out s (some rest) W) from by
   have:=k8word s (a + 1 + m) wordEst hlm hs W
   rw [hdx,hE] at this
   exact this)
 have HS:=Lh hS
 have HEX:=Lh hex
 obtain ⟨f,hf⟩ : ∃ f,a + 1 = f:=⟨_,rfl⟩
 rw [hf] at HB HWE hlm HEX
 obtain ⟨g,hg⟩ : ∃ g,f + m = g:=⟨_,rfl⟩
 rw [hg] at HWE hlm HEX
 have v1 : decide ((m : Int) > 1048576) = false:=by simp;omega
 obtain ⟨r,hr⟩ : ∃ r,s.size - f = r:=⟨_,rfl⟩
 have v2 : IntKind.i64.wrap ((s.size : Int) - (f : Int)) = (r : Int):=by rw [IntWalk.i64_in _ (by omega)];omega
 have v3 : decide ((r : Int) < (m : Int)) = false:=by simp;omega
 have v8 : ¬ r < m:=by omega
 have v9 : ¬ (r : Int) < (m : Int):=by omega
 have v4 : IntKind.i64.wrap ((f : Int) + m) = (g : Int):=by rw [IntWalk.i64_in _ (by omega)];omega
 have v5 : (f : Int) ≤ g:=by omega
 have v6 : (g : Int) ≤ s.size:=by omega
 have v7 : f ≤ g:=by omega
 clear hO hS hn1 hn2 hl hj hjk hbf hkl hm hsm hc hdr hd hE hda hdx hex hdm hf hg hr
 generalize o.kind = K at h7 HZ HDR ⊢
 subst h7
 go_enter Tryz.func44,Tryz.ntmps44
 go_wp2_with fail
 refine (HB.out _).mono ?_
 rintro e w1 ⟨rfl,h1⟩
 obtain rfl:=h1.symm
 go_wp2_with fail
 refine (HZ.out _ bel).mono ?_
 rintro e w1 ⟨rfl,hb1⟩
 have hz1:=hb1.size
 simp at hz1
 have hbw1 : Below w.heap.size w w1:=bel
 have A1:=(hb1.block _ (by simp;omega)).trans ((Below.heap_alloc _ _ _ (by simp)).trans (heap_new_at w (.cells #[.int .i64 7,.int .i64 o.n,.int .i64 o.g,.string ⟨o.s.toArray⟩,.slice p1 n1 c1,.slice p2 n1 c2] 26) _ rfl))
 have B1:=(hb1.block _ (by simp)).trans (heap_new_at (w.alloc (.cells #[.int .i64 7,.int .i64 o.n,.int .i64 o.g,.string ⟨o.s.toArray⟩,.slice p1 n1 c1,.slice p2 n1 c2] 26)) (.cells #[.int .i64 0,.int .i64 0,.int .i64 0,.string ⟨#[]⟩,.slice none 0 0,.slice none 0 0] 26) (w.heap.size + 1) (by simp))
 obtain ⟨a0,a1,a2,a3,a4,a5,af⟩:=six_of A1
 go_wp2_with fail
 refine (HDR.out _ hbw1).mono ?_
 rintro e w2 ⟨q1,e1,m1,q2,e2,m2,rfl,hD,hb2⟩
 have hbw2 : Below w.heap.size w w2:=hbw1.trans (hb2.mono hbw1.size)
 have B2:=(hb2.block _ (by omega)).trans B1
 have hz2:=hb2.size
 have HD:=Lh (hD.weaken (S':=fun b => (w.heap.size + 2 ≤ b ∨ S b) ∧ b < w2.heap.size) (fun b h h2 => ⟨h.elim (fun h => .inl (by omega)) .inr,h2⟩) (d + 1))
 clear hD hb1 hb2 a0 a1 a2 a3 a4 a5 af A1 B1
 obtain ⟨b0,b1,b2,b3,b4,b5,bf⟩:=six_of B2
 go_wp2_with fail
 obtain ⟨B,hB⟩ : ∃ B,w2.heap.size = B:=⟨_,rfl⟩
 obtain ⟨w3,hw3⟩ : ∃ w3,w2.alloc (.cells #[.int .i64 7,.int .i64 0,.int .i64 0,.string ⟨o.s.toArray⟩,.slice q1 e1 m1,.slice q2 e2 m2] 26) = w3:=⟨_,rfl⟩
 rw [hw3,hB]
 rw [hB] at hz2
 have hb23 : Below w2.heap.size w2 w3:=by rw [← hw3];exact belr
 have B3 : w3.heap[B]? = some (.cells #[.int .i64 7,.int .i64 0,.int .i64 0,.string ⟨o.s.toArray⟩,.slice q1 e1 m1,.slice q2 e2 m2] 26 (0,0)):=by rw [← hw3];exact heap_new_at _ _ _ hB.symm
 have hz3 : w3.heap.size = B + 1:=by rw [← hw3,← hB];simp
 have hbw3 : Below w.heap.size w w3:=hbw2.trans (hb23.mono hbw2.size)
 have B2':=(hb23.block _ (by omega)).trans B2
 have HD3:=Lh (HD.out.kept (w':=w3) (fun b h => hb23.block b h.2) (d + 1))
 clear hw3 b0 b1 b2 b3 b4 b5 bf B2
 obtain ⟨b0,b1,b2,b3,b4,b5,bf⟩:=six_of B3
 obtain ⟨c0,c1,c2,c3,c4,c5,cf⟩:=six_of B2'
 have ne1 : ¬ w.heap.size + 1 = B:=by omega
 have ne2 : ¬ B = w.heap.size + 1:=by omega
 go_region_held3 (fun w' => True) (go_keep) (fail)
 go_wp2_with fail
 rw [HEX.out]
 obtain ⟨w4,hw4⟩ : ∃ w4,(w3.setCell ⟨B,0,none⟩ (.int .i64 9)).setCell ⟨B,3,none⟩ (.string ⟨data.toArray⟩) = w4:=⟨_,rfl⟩
 rw [hw4]
 have B4 : w4.heap[B]? = some (.cells #[.int .i64 9,.int .i64 0,.int .i64 0,.string ⟨data.toArray⟩,.slice q1 e1 m1,.slice q2 e2 m2] 26 (0,0)):=by rw [← hw4,set_any (set_any B3)];rfl
 have hk4 : ∀ b,b ≠ B → w4.heap[b]? = w3.heap[b]?:=fun b hb => by rw [← hw4,Below.heap_setCell _ _ _ _ hb,Below.heap_setCell _ _ _ _ hb]
 have hz4 : w4.heap.size = B + 1:=by rw [← hw4,← hz3];simp [World.setCell]
 have hbw4 : Below w.heap.size w w4:=by rw [← hw4];exact (hbw3.setCell (p:=⟨B,0,none⟩) (by show w.heap.size ≤ B;omega) _).setCell (p:=⟨B,3,none⟩) (by show w.heap.size ≤ B;omega) _
 have HD4:=Lh (HD3.out.kept (w':=w4) (fun b h => hk4 b (by omega)) (d + 1))
 have C4:=(hk4 _ ne1).trans B2'
 clear hw4 b0 b1 b2 b3 b4 b5 bf c0 c1 c2 c3 c4 c5 cf HD3 B3 B2'
 refine (HWE.out _).mono ?_
 rintro e w5 ⟨q,rfl,hq,hdq,hb4⟩
 have hb5 : Below w4.heap.size w4 w5:=(by repeat' (first | (with_reducible first | exact Below.refl _ _ | refine Below.drew ?_ | refine belowDrewN ?_ _ | refine belowIter ?_ ?_ _ _ | refine Below.setCell ?_ ?_ _ | refine Below.alloc ?_ ?_ _ | refine bT hb4 ?_ ?_ | refine bT hb2 ?_ ?_ | refine bT hb1 ?_ ?_ | refine bT hbr ?_ ?_ | refine bT hb ?_ ?_) | (simp;done) | (simp;omega) | omega))
 have hz5:=hb5.size
 have B5:=(hb5.block _ (by omega)).trans B4
 have C5:=(hb5.block _ (by omega)).trans C4
 have HD5:=Lh (HD4.out.kept (w':=w5) (fun b h => hb5.block b (by omega)) (d + 1))
 have hbw5 : Below w.heap.size w w5:=hbw4.trans (hb5.mono hbw4.size)
 have HQ:=Lh hdq
 clear hdq hb4 hb5 hbw3 hbw4 HD4
 obtain ⟨b0,b1,b2,b3,b4,b5,bf⟩:=six_of B5
 obtain ⟨c0,c1,c2,c3,c4,c5,cf⟩:=six_of C5
 go_wp2
 refine bodyPost_ret (v:=.tuple #[.agg #[.int .i64 9,.int .i64 0,.int .i64 0,.string ⟨data.toArray⟩,.slice q1 e1 m1,.slice q2 e2 m2],.int .i64 q,.int .i64 0]) (by simp [results,Tryz.results44,go_sem,c0,c1,c2,c3,c4,c5,cf]) rfl ⟨q1,e1,m1,q2,e2,m2,q,rfl,hq,HQ.out,?_,?_⟩
 · refine ((HD5.out.kept (w':=_) ?_ (d + 1)).weaken (fun b h _ => h.1.elim (fun h => .inl (by omega)) .inr) (d + 1))
   intro b hb
   have hb2 : b ≠ w.heap.size + 1:=by
     rcases hb.1 with hb | hb
     · omega
     · have:=HS.out b hb;omega
   iterate 6 (refine (Below.heap_setCell _ _ _ _ hb2).trans ?_)
   rfl
 · exact ((((((hbw5.setCell (p:=⟨w.heap.size + 1,0,none⟩) (Nat.le_succ _) _).setCell (p:=⟨w.heap.size + 1,1,none⟩) (Nat.le_succ _) _).setCell (p:=⟨w.heap.size + 1,2,none⟩) (Nat.le_succ _) _).setCell (p:=⟨w.heap.size + 1,3,none⟩) (Nat.le_succ _) _).setCell (p:=⟨w.heap.size + 1,4,none⟩) (Nat.le_succ _) _).setCell (p:=⟨w.heap.size + 1,5,none⟩) (Nat.le_succ _) _)
theorem eightf {w : World} {b : Nat} {t : TypeId} {v0 v1 v2 v3 v4 v5 v6 v7 : Value} (h : w.heap[b]? = some (.cells #[v0, v1, v2, v3, v4, v5, v6, v7] t (0, 0))) :
   w.cell? ⟨b,0,none⟩ = some v0 ∧ w.cell? ⟨b,1,none⟩ = some v1 ∧ w.cell? ⟨b,2,none⟩ = some v2 ∧ w.cell? ⟨b,3,none⟩ = some v3 ∧ w.cell? ⟨b,4,none⟩ = some v4 ∧ w.cell? ⟨b,5,none⟩ = some v5 ∧ w.cell? ⟨b,6,none⟩ = some v6 ∧ w.cell? ⟨b,7,none⟩ = some v7 ∧ ∀ o,w.frozen? ⟨b,o,none⟩ = false:=by
 simp [World.cell?,World.frozen?,h]
theorem r8succ : ∀ (d : Nat) (o : Ob),smallO d o → smallO (d + 1) o
 | 0,_,h => by cases h
 | d + 1,_,h => ⟨h.1,h.2.1,h.2.2.1,h.2.2.2.1,fun k hk => r8succ d k (h.2.2.2.2 k hk)⟩
def ItemOut (num gen : Int) (o : Ob) (w : World) (e : Ending) (w' : World) : Prop :=
 ∃ (p1 : Option Addr) (n1 c1 : Nat) (p2 : Option Addr) (n2 c2 q : Nat),e = .returned (.tuple #[.agg #[.int .i64 num,.int .i64 gen,.int .i64 o.kind,.int .i64 o.n,.int .i64 o.g,.string ⟨o.s.toArray⟩,.slice p1 n1 c1,.slice p2 n2 c2],.int .i64 q,.int .i64 0]) ∧
   ObjAt (fun b => w.heap.size ≤ b) 25 w' (objCells o.kind o.n o.g o.s (.slice p1 n1 c1) (.slice p2 n2 c2)) o ∧ Below w.heap.size w w'
theorem k8plain (s : ByteArray) (hs : s.size ≤ 1048576) (a : Nat) (ha : a ≤ s.size) (num gen : Int) (l1 l2 l3 lb lx : L) (h1 : numR (s.data.toList.drop a) 1 8191 = some (num, l1)) (h2 : numR l1 0 65535 = some (gen, l2)) (h3 : wordR l2 wordObj = some l3)
   (o : Ob) (hR : readS l3 = .good (o,lb)) (hk : o.kind ≠ 8) (hno : wordR lb wordStm = none) (hend : wordR lb wordEnd = some lx) (w : World) :
   Calls Tryz.prog 17 #[.string s,.int .i64 a,.int .i64 (-1)] w (ItemOut num gen o w):=by
 have HH:=Lh (fun W => k8head s a num gen l1 l2 l3 ha (by omega) h1 h2 h3 W)
 have HO:=Lh (fun (q : Nat) (hq : q ≤ s.size) (hd : s.data.toList.drop q = l3) W => kObject s hs q hq o lb (by rw [hd];exact hR) W)
 have HW1:=Lh (fun (q : Nat) (hq : q ≤ s.size) (hd : s.data.toList.drop q = lb) W => show Calls Tryz.prog 43 #[.string s,.int .i64 q,.string ⟨#[115,116,114,101,97,109]⟩] W (W8Out s none W) from by
   have:=k8word s q wordStm hq (by omega) W
   rw [hd,hno] at this;exact this)
 have HW2:=Lh (fun (q : Nat) (hq : q ≤ s.size) (hd : s.data.toList.drop q = lb) W => show Calls Tryz.prog 43 #[.string s,.int .i64 q,.string ⟨#[101,110,100,111,98,106]⟩] W (W8Out s (some lx) W) from by
   have:=k8word s q wordEnd hq (by omega) W
   rw [hd,hend] at this;exact this)
 have e2 : decide ((s.size : Int) < (a : Int)) = false:=by simp;omega
 have e8 : (o.kind == 8) = false:=by simpa using hk
 clear h1 h2 h3 hR hno hend hk
 go_enter Tryz.func17,Tryz.ntmps17
 go_wp2_with fail
 refine (HH.out _).mono ?_
 rintro e w1 ⟨q1,rfl,hq1,hd1,hb1⟩
 have hz1:=hb1.size
 simp at hz1
 have hbw1 : Below w.heap.size w w1:=bel
 go_wp2_with fail
 refine (HO.out q1 hq1 hd1 _).mono ?_
 rintro e w2 ⟨p1,n1,c1,p2,n2,c2,q2,rfl,hq2,hd2,hO,hb2⟩
 have A2:=(hb2.block _ (by omega)).trans ((hb1.block _ (by simp)).trans (heap_new_at w (.cells #[.int .i64 0,.int .i64 0,.int .i64 0,.int .i64 0,.int .i64 0,.string ⟨#[]⟩,.slice none 0 0,.slice none 0 0] 50) _ rfl))
 have hbw2 : Below w.heap.size w w2:=hbw1.trans (hb2.mono hbw1.size)
 have hz2:=hb2.size
 have HOB:=Lh (hO.weaken (S':=fun b => w1.heap.size ≤ b ∧ b < w2.heap.size) (fun b h h2 => ⟨h,h2⟩) 25)
 have HD2:=Lh hd2
 clear hO hb1 hb2 hd1 hd2
 obtain ⟨B,hB⟩ : ∃ B,w2.heap.size = B:=⟨_,rfl⟩
 go_wp2_with fail
 obtain ⟨w3,hw3⟩ : ∃ w3,w2.alloc (.cells #[.int .i64 o.kind,.int .i64 o.n,.int .i64 o.g,.string ⟨o.s.toArray⟩,.slice p1 n1 c1,.slice p2 n2 c2] 26) = w3:=⟨_,rfl⟩
 rw [hw3]
 rw [hB] at hz2 HOB
 have hb23 : Below w2.heap.size w2 w3:=by rw [← hw3];exact belr
 have B3 : w3.heap[B]? = some (.cells #[.int .i64 o.kind,.int .i64 o.n,.int .i64 o.g,.string ⟨o.s.toArray⟩,.slice p1 n1 c1,.slice p2 n2 c2] 26 (0,0)):=by rw [← hw3];exact heap_new_at _ _ _ hB.symm
 have hz3 : w3.heap.size = B + 1:=by rw [← hw3,← hB];simp
 have hbw3 : Below w.heap.size w w3:=hbw2.trans (hb23.mono hbw2.size)
 have A3:=(hb23.block _ (by omega)).trans A2
 have HOB3:=Lh (HOB.out.kept (w':=w3) (fun b h => hb23.block b (by omega)) 25)
 clear hw3 HOB hb23 A2
 refine (HW1.out q2 hq2 HD2.out _).mono ?_
 rintro e w4 ⟨k,hk0,rfl,hb4⟩
 have hz4:=hb4.size
 have A4:=(hb4.block _ (by omega)).trans A3
 have B4:=(hb4.block _ (by omega)).trans B3
 have HOB4:=Lh (HOB3.out.kept (w':=w4) (fun b h => hb4.block b (by omega)) 25)
 have hbw4 : Below w.heap.size w w4:=hbw3.trans (hb4.mono hbw3.size)
 have hke : (k == 0) = false:=by simpa using hk0
 clear HOB3 hb4 A3 B3 hk0
 obtain ⟨b0,b1,b2,b3,b4,b5,bf⟩:=six_of B4
 go_wp2_with fail
 refine (HW2.out q2 hq2 HD2.out _).mono ?_
 rintro e w5 ⟨q,rfl,hq,hdq,hb4⟩
 have hb5 : Below w4.heap.size w4 w5:=(by repeat' (first | (with_reducible first | exact Below.refl _ _ | refine Below.drew ?_ | refine belowDrewN ?_ _ | refine belowIter ?_ ?_ _ _ | refine Below.setCell ?_ ?_ _ | refine Below.alloc ?_ ?_ _ | refine bT hb4 ?_ ?_ | refine bT hb2 ?_ ?_ | refine bT hb1 ?_ ?_ | refine bT hbr ?_ ?_ | refine bT hb ?_ ?_) | (simp;done) | (simp;omega) | omega))
 have hz5:=hb5.size
 have A5:=(hb5.block _ (by omega)).trans A4
 have B5:=(hb5.block _ (by omega)).trans B4
 have HOB5:=Lh (HOB4.out.kept (w':=w5) (fun b h => hb5.block b (by omega)) 25)
 have hbw5 : Below w.heap.size w w5:=hbw4.trans (hb5.mono hbw4.size)
 clear HOB4 hb4 hb5 A4 B4 b0 b1 b2 b3 b4 b5 bf
 obtain ⟨b0,b1,b2,b3,b4,b5,bf⟩:=six_of B5
 obtain ⟨a0,a1,a2,a3,a4,a5,a6,a7,af⟩:=eightf A5
 go_wp2
 refine bodyPost_ret (v:=.tuple #[.agg #[.int .i64 num,.int .i64 gen,.int .i64 o.kind,.int .i64 o.n,.int .i64 o.g,.string ⟨o.s.toArray⟩,.slice p1 n1 c1,.slice p2 n2 c2],.int .i64 q,.int .i64 0]) (by simp [results,Tryz.results17,go_sem,a0,a1,a2,a3,a4,a5,a6,a7,af]) rfl ⟨p1,n1,c1,p2,n2,c2,q,rfl,?_,?_⟩
 · refine ((HOB5.out.kept (w':=_) ?_ 25).weaken (fun b h _ => by omega) 25)
   intro b hb
   have hb2 : b ≠ w.heap.size:=by omega
   iterate 8 (refine (Below.heap_setCell _ _ _ _ hb2).trans ?_)
   rfl
 · exact ((((((((hbw5.setCell (p:=⟨w.heap.size,0,none⟩) (Nat.le_refl _) _).setCell (p:=⟨w.heap.size,1,none⟩) (Nat.le_refl _) _).setCell (p:=⟨w.heap.size,2,none⟩) (Nat.le_refl _) _).setCell (p:=⟨w.heap.size,3,none⟩) (Nat.le_refl _) _).setCell (p:=⟨w.heap.size,4,none⟩) (Nat.le_refl _) _).setCell (p:=⟨w.heap.size,5,none⟩) (Nat.le_refl _) _).setCell (p:=⟨w.heap.size,6,none⟩) (Nat.le_refl _) _).setCell (p:=⟨w.heap.size,7,none⟩) (Nat.le_refl _) _)
theorem k8str (s : ByteArray) (hs : s.size ≤ 1048576) (a : Nat) (ha : a ≤ s.size) (num gen : Int) (l1 l2 l3 lb X ly lx data : L) (h1 : numR (s.data.toList.drop a) 1 8191 = some (num, l1)) (h2 : numR l1 0 65535 = some (gen, l2)) (h3 : wordR l2 wordObj = some l3)
   (o : Ob) (hR : readS l3 = .good (o,lb)) (h7 : o.kind = 7) (hst : wordR lb wordStm = some (10 :: (data ++ X))) (hest : wordR X wordEst = some ly) (hend : wordR ly wordEnd = some lx)
   (j : Nat) (hlen : o.keys.length = o.kids.length) (hl : o.keys.length ≤ 8192) (hj : j < o.keys.length) (hjk : o.keys.getD j [] = wLength) (hbf : ∀ i,i < j → o.keys.getD i [] ≠ wLength) (hkl : ∀ x ∈ o.keys,x.length ≤ 1000000) (hm : o.kids.getD j .zero = .int data.length) (hsm : smallO 25 o) (hc : checkB 24 o = 0)
   (ks : List L) (cs : List Ob) (hdr : dropO o wLength = .mk 7 0 0 [] ks cs) (w : World) :
   Calls Tryz.prog 17 #[.string s,.int .i64 a,.int .i64 (-1)] w (ItemOut num gen (.mk 9 0 0 data ks cs) w):=by
 have HH:=Lh (fun W => k8head s a num gen l1 l2 l3 ha (by omega) h1 h2 h3 W)
 have HO:=Lh (fun (q : Nat) (hq : q ≤ s.size) (hd : s.data.toList.drop q = l3) W => kObject s hs q hq o lb (by rw [hd];exact hR) W)
 have HW1:=Lh (fun (q : Nat) (hq : q ≤ s.size) (hd : s.data.toList.drop q = lb) W => show Calls Tryz.prog 43 #[.string s,.int .i64 q,.string ⟨#[115,116,114,101,97,109]⟩] W (W8Out s (some (10 :: (data ++ X))) W) from by
   have:=k8word s q wordStm hq (by omega) W
   rw [hd,hst] at this;exact this)
 have HW2:=Lh (fun (q : Nat) (hq : q ≤ s.size) (hd : s.data.toList.drop q = ly) W => show Calls Tryz.prog 43 #[.string s,.int .i64 q,.string ⟨#[101,110,100,111,98,106]⟩] W (W8Out s (some lx) W) from by
   have:=k8word s q wordEnd hq (by omega) W
   rw [hd,hend] at this;exact this)
 have HST:=Lh (fun (q : Nat) (hq : q ≤ s.size) (hd : s.data.toList.drop q = 10 :: (data ++ X)) (S : Nat → Prop) (W : World) p1 c1 p2 c2 (hO : ObjAt S 25 W (objCells o.kind o.n o.g o.s (.slice p1 o.keys.length c1) (.slice p2 o.keys.length c2)) o) (hS : ∀ b,S b → b < W.heap.size) =>
   kstream S 24 W o p1 p2 o.keys.length c1 c2 j data.length hO hS h7 rfl hlen.symm hl hj hjk hbf hkl hm (by
     have:=congrArg List.length hd
     simp at this
     have h2 : s.data.size = s.size:=rfl
     omega) hsm hc ks cs hdr s (by omega) q hq data X ly hd rfl hest)
 have HLN:=Lh hlen
 have e2 : decide ((s.size : Int) < (a : Int)) = false:=by simp;omega
 clear h1 h2 h3 hR hst hest hend hlen hl hj hjk hbf hkl hm hsm hc hdr
 obtain ⟨KL,hKL⟩ : ∃ KL,o.keys.length = KL:=⟨_,rfl⟩
 rw [hKL] at HST
 have HKL:=Lh hKL
 clear hKL
 have H7:=Lh h7
 go_enter Tryz.func17,Tryz.ntmps17
 go_wp2_with fail
 refine (HH.out _).mono ?_
 rintro e w1 ⟨q1,rfl,hq1,hd1,hb1⟩
 have hz1:=hb1.size
 simp at hz1
 have hbw1 : Below w.heap.size w w1:=bel
 go_wp2_with fail
 refine (HO.out q1 hq1 hd1 _).mono ?_
 rintro e w2 ⟨p1,n1,c1,p2,n2,c2,q2,rfl,hq2,hd2,hO,hb2⟩
 have A2:=(hb2.block _ (by omega)).trans ((hb1.block _ (by simp)).trans (heap_new_at w (.cells #[.int .i64 0,.int .i64 0,.int .i64 0,.int .i64 0,.int .i64 0,.string ⟨#[]⟩,.slice none 0 0,.slice none 0 0] 50) _ rfl))
 have hbw2 : Below w.heap.size w w2:=hbw1.trans (hb2.mono hbw1.size)
 have hz2:=hb2.size
 obtain ⟨p1',c1',p2',c2',e0⟩:=hO.form2
 obtain ⟨rfl,rfl⟩ : n1 = o.keys.length ∧ n2 = o.kids.length:=by
   unfold objCells at e0
   simp only [List.cons.injEq,Value.slice.injEq,and_true,true_and] at e0
   exact ⟨e0.1.2.1,e0.2.2.1⟩
 clear e0
 rw [← HLN.out,HKL.out] at hO ⊢
 have HOB:=Lh (hO.weaken (S':=fun b => w1.heap.size ≤ b ∧ b < w2.heap.size) (fun b h h2 => ⟨h,h2⟩) 25)
 have HD2:=Lh hd2
 clear hO hb1 hb2 hd1 hd2
 generalize o.kind = K at h7 HST HOB ⊢
 subst h7
 obtain ⟨B,hB⟩ : ∃ B,w2.heap.size = B:=⟨_,rfl⟩
 go_wp2_with fail
 obtain ⟨w3,hw3⟩ : ∃ w3,w2.alloc (.cells #[.int .i64 7,.int .i64 o.n,.int .i64 o.g,.string ⟨o.s.toArray⟩,.slice p1 KL c1,.slice p2 KL c2] 26) = w3:=⟨_,rfl⟩
 rw [hw3]
 rw [hB] at hz2 HOB
 have hb23 : Below w2.heap.size w2 w3:=by rw [← hw3];exact belr
 have B3 : w3.heap[B]? = some (.cells #[.int .i64 7,.int .i64 o.n,.int .i64 o.g,.string ⟨o.s.toArray⟩,.slice p1 KL c1,.slice p2 KL c2] 26 (0,0)):=by rw [← hw3];exact heap_new_at _ _ _ hB.symm
 have hz3 : w3.heap.size = B + 1:=by rw [← hw3,← hB];simp
 have hbw3 : Below w.heap.size w w3:=hbw2.trans (hb23.mono hbw2.size)
 have A3:=(hb23.block _ (by omega)).trans A2
 have HOB3:=Lh (HOB.out.kept (w':=w3) (fun b h => hb23.block b (by omega)) 25)
 clear hw3 HOB hb23 A2
 refine (HW1.out q2 hq2 HD2.out _).mono ?_
 rintro e w4 ⟨q4,rfl,hq4,hd4,hb4⟩
 have hz4:=hb4.size
 have A4:=(hb4.block _ (by omega)).trans A3
 have B4:=(hb4.block _ (by omega)).trans B3
 have HOB4:=Lh (HOB3.out.kept (w':=w4) (fun b h => hb4.block b (by omega)) 25)
 have hbw4 : Below w.heap.size w w4:=hbw3.trans (hb4.mono hbw3.size)
 have HD4:=Lh hd4
 clear HOB3 hb4 A3 B3 hd4
 obtain ⟨b0,b1,b2,b3,b4,b5,bf⟩:=six_of B4
 go_wp2_with fail
 refine (HST.out q4 hq4 HD4.out (fun b => w1.heap.size ≤ b ∧ b < B) w4 p1 c1 p2 c2 HOB4.out (fun b h => by omega)).mono ?_
 rintro e w5 ⟨r1,m1,e1,r2,m2,e2',q5,rfl,hq5,hd5,hO5,hb5⟩
 have hz5:=hb5.size
 have A5:=(hb5.block _ (by omega)).trans A4
 have B5:=(hb5.block _ (by omega)).trans B4
 have hbw5 : Below w.heap.size w w5:=hbw4.trans (hb5.mono hbw4.size)
 have HD5:=Lh hd5
 have HOB5:=Lh (hO5.weaken (S':=fun b => (w1.heap.size ≤ b ∧ b ≠ B) ∧ b < w5.heap.size) (fun b h h2 => ⟨⟨by omega,by omega⟩,h2⟩) 25)
 clear HOB4 hb5 A4 B4 hd5 hO5 b0 b1 b2 b3 b4 b5 bf
 obtain ⟨C,hC⟩ : ∃ C,w5.heap.size = C:=⟨_,rfl⟩
 go_upto_region 16 with fail
 obtain ⟨w6,hw6⟩ : ∃ w6,w5.alloc (.cells #[.int .i64 9,.int .i64 0,.int .i64 0,.string ⟨data.toArray⟩,.slice r1 m1 e1,.slice r2 m2 e2'] 26) = w6:=⟨_,rfl⟩
 rw [hw6]
 have hb56 : Below w5.heap.size w5 w6:=by rw [← hw6];exact belr
 have C6 : w6.heap[C]? = some (.cells #[.int .i64 9,.int .i64 0,.int .i64 0,.string ⟨data.toArray⟩,.slice r1 m1 e1,.slice r2 m2 e2'] 26 (0,0)):=by rw [← hw6];exact heap_new_at _ _ _ hC.symm
 have hz6 : w6.heap.size = C + 1:=by rw [← hw6,← hC];simp
 have hbw6 : Below w.heap.size w w6:=hbw5.trans (hb56.mono hbw5.size)
 have A6:=(hb56.block _ (by omega)).trans A5
 have B6:=(hb56.block _ (by omega)).trans B5
 have HOB6:=Lh (HOB5.out.kept (w':=w6) (fun b h => hb56.block b h.2) 25)
 clear hw6 hb56 HOB5 A5 B5
 obtain ⟨b0,b1,b2,b3,b4,b5,bf⟩:=six_of B6
 obtain ⟨d0,d1,d2,d3,d4,d5,df⟩:=six_of C6
 go_wp2_with fail
 obtain ⟨w7,hw7⟩ : ∃ w7,(((((w6.setCell ⟨B,0,none⟩ (.int .i64 9)).setCell ⟨B,1,none⟩ (.int .i64 0)).setCell ⟨B,2,none⟩ (.int .i64 0)).setCell ⟨B,3,none⟩ (.string ⟨data.toArray⟩)).setCell ⟨B,4,none⟩ (.slice r1 m1 e1)).setCell ⟨B,5,none⟩ (.slice r2 m2 e2') = w7:=⟨_,rfl⟩
 rw [hw7]
 have B7 : w7.heap[B]? = some (.cells #[.int .i64 9,.int .i64 0,.int .i64 0,.string ⟨data.toArray⟩,.slice r1 m1 e1,.slice r2 m2 e2'] 26 (0,0)):=by
   rw [← hw7,set_any (set_any (set_any (set_any (set_any (set_any B6)))))];rfl
 have hk7 : ∀ b,b ≠ B → w7.heap[b]? = w6.heap[b]?:=fun b hb => by
   rw [← hw7,Below.heap_setCell _ _ _ _ hb,Below.heap_setCell _ _ _ _ hb,Below.heap_setCell _ _ _ _ hb,Below.heap_setCell _ _ _ _ hb,Below.heap_setCell _ _ _ _ hb,Below.heap_setCell _ _ _ _ hb]
 have hz7 : w7.heap.size = w6.heap.size:=by rw [← hw7];simp [World.setCell]
 have hwB : w.heap.size ≤ B:=by omega
 have hbw7 : Below w.heap.size w w7:=by
   rw [← hw7]
   exact ((((((hbw6.setCell (p:=⟨B,0,none⟩) hwB _).setCell (p:=⟨B,1,none⟩) hwB _).setCell (p:=⟨B,2,none⟩) hwB _).setCell (p:=⟨B,3,none⟩) hwB _).setCell (p:=⟨B,4,none⟩) hwB _).setCell (p:=⟨B,5,none⟩) hwB _)
 have A7:=(hk7 _ (by omega)).trans A6
 have HOB7:=Lh (HOB6.out.kept (w':=w7) (fun b h => hk7 b (by omega)) 25)
 clear hw7 hk7 HOB6 A6 B6 C6 b0 b1 b2 b3 b4 b5 bf d0 d1 d2 d3 d4 d5 df
 refine (HW2.out q5 hq5 HD5.out _).mono ?_
 rintro e w8 ⟨q,rfl,hq,hdq,hb4⟩
 have hb8 : Below w7.heap.size w7 w8:=(by repeat' (first | (with_reducible first | exact Below.refl _ _ | refine Below.drew ?_ | refine belowDrewN ?_ _ | refine belowIter ?_ ?_ _ _ | refine Below.setCell ?_ ?_ _ | refine Below.alloc ?_ ?_ _ | refine bT hb4 ?_ ?_ | refine bT hb2 ?_ ?_ | refine bT hb1 ?_ ?_ | refine bT hbr ?_ ?_ | refine bT hb ?_ ?_) | (simp;done) | (simp;omega) | omega))
 have hz8:=hb8.size
 have A8:=(hb8.block _ (by omega)).trans A7
 have B8:=(hb8.block _ (by omega)).trans B7
 have HOB8:=Lh ((HOB7.out.kept (w':=w8) (fun b h => hb8.block b (by omega)) 25).weaken (S':=fun b => w1.heap.size ≤ b) (fun b h _ => h.1.1) 25)
 have hbw8 : Below w.heap.size w w8:=hbw7.trans (hb8.mono hbw7.size)
 clear HOB7 hb4 hb8 A7 B7 hdq
 obtain ⟨b0,b1,b2,b3,b4,b5,bf⟩:=six_of B8
 obtain ⟨a0,a1,a2,a3,a4,a5,a6,a7,af⟩:=eightf A8
 go_wp2
 refine bodyPost_ret (v:=.tuple #[.agg #[.int .i64 num,.int .i64 gen,.int .i64 9,.int .i64 0,.int .i64 0,.string ⟨data.toArray⟩,.slice r1 m1 e1,.slice r2 m2 e2'],.int .i64 q,.int .i64 0]) (by simp [results,Tryz.results17,go_sem,a0,a1,a2,a3,a4,a5,a6,a7,af]) rfl ⟨r1,m1,e1,r2,m2,e2',q,rfl,?_,?_⟩
 · refine ((HOB8.out.kept (w':=_) ?_ 25).weaken (fun b h _ => by omega) 25)
   intro b hb
   have hb2 : b ≠ w.heap.size:=by omega
   iterate 8 (refine (Below.heap_setCell _ _ _ _ hb2).trans ?_)
   rfl
 · exact ((((((((hbw8.setCell (p:=⟨w.heap.size,0,none⟩) (Nat.le_refl _) _).setCell (p:=⟨w.heap.size,1,none⟩) (Nat.le_refl _) _).setCell (p:=⟨w.heap.size,2,none⟩) (Nat.le_refl _) _).setCell (p:=⟨w.heap.size,3,none⟩) (Nat.le_refl _) _).setCell (p:=⟨w.heap.size,4,none⟩) (Nat.le_refl _) _).setCell (p:=⟨w.heap.size,5,none⟩) (Nat.le_refl _) _).setCell (p:=⟨w.heap.size,6,none⟩) (Nat.le_refl _) _).setCell (p:=⟨w.heap.size,7,none⟩) (Nat.le_refl _) _)
theorem nameB_short {k : L} (h : nameB k = true) : k.length ≤ 127:=by
 unfold nameB at h
 simp at h
 exact h.2
theorem k8read (s : ByteArray) (hs : s.size ≤ 1048576) (a : Nat) (ha : a ≤ s.size) (i : It) (t rest : L) (hi : itemW i = .good t) (hd : s.data.toList.drop a = t ++ rest) (w : World) :
   Calls Tryz.prog 17 #[.string s,.int .i64 a,.int .i64 (-1)] w (ItemOut i.num i.gen i.ob w):=by
 obtain ⟨hnum,hc,h8,⟨h9,rfl⟩ | ⟨h9,hcl,rfl⟩⟩:=itemW_good hi
 · obtain ⟨l1,l2,g1,g2,g3⟩:=head_back hnum (textW i.ob ++ 10 :: (wEndobj ++ rest))
   obtain ⟨r1,r2,r3⟩:=plain_back hc h9 rest
   refine k8plain s hs a ha i.num i.gen l1 l2 _ _ _ ?_ g2 g3 i.ob r1 h8 r2 r3 w
   rw [hd,show headI i ++ (textW i.ob ++ 10 :: wEndobj) ++ rest = headI i ++ (textW i.ob ++ 10 :: (wEndobj ++ rest)) by simp]
   exact g1
 · obtain ⟨l1,l2,g1,g2,g3⟩:=head_back hnum (textW (lenO i.ob) ++ 10 :: (wStream ++ (i.ob.s ++ (wEndstream ++ (wEndobj ++ rest)))))
   obtain ⟨r1,r2,r3,r4⟩:=stream_back hcl (lenO_kind i.ob) rest
   obtain ⟨hno,hlen,hdr,hob⟩:=lenO_drop hc h9
   have hcL:=(checkB_iff 23 (lenO i.ob)).1 hcl
   have hKL:=(keysB_iff (lenO i.ob) (.inl (lenO_kind i.ob))).1 hcL.keys
   have hle:=lowS_le i.ob.keys wLength
   have hform : lenO i.ob = (Ob.mk 7 0 0 [] i.ob.keys i.ob.kids).withK (i.ob.keys.take (lowS i.ob.keys wLength) ++ wLength :: i.ob.keys.drop (lowS i.ob.keys wLength)) (i.ob.kids.take (lowS i.ob.keys wLength) ++ Ob.int i.ob.s.length :: i.ob.kids.drop (lowS i.ob.keys wLength)):=put_new (o:=.mk 7 0 0 [] i.ob.keys i.ob.kids) _ hno
   have hkeys : (lenO i.ob).keys = i.ob.keys.take (lowS i.ob.keys wLength) ++ wLength :: i.ob.keys.drop (lowS i.ob.keys wLength):=by rw [hform];rfl
   have hkids : (lenO i.ob).kids = i.ob.kids.take (lowS i.ob.keys wLength) ++ Ob.int i.ob.s.length :: i.ob.kids.drop (lowS i.ob.keys wLength):=by rw [hform];rfl
   have hmany:=hcL.many
   have hklen:=hKL.len
   have h := k8str s hs a ha i.num i.gen l1 l2 _ _ _ _ _ i.ob.s (by
       rw [hd,show headI i ++ (textW (lenO i.ob) ++ 10 :: (wStream ++ (i.ob.s ++ (wEndstream ++ wEndobj)))) ++ rest = headI i ++ (textW (lenO i.ob) ++ 10 :: (wStream ++ (i.ob.s ++ (wEndstream ++ (wEndobj ++ rest))))) by simp]
       exact g1) g2 g3 (lenO i.ob) r1 (lenO_kind _) r2 r3 r4 (lowS i.ob.keys wLength) hklen (by omega)
     (by rw [hkeys];simp;omega)
     (by rw [hkeys,List.getD_eq_getElem?_getD,List.getElem?_append_right (by simp;omega),List.length_take,Nat.min_eq_left hle,Nat.sub_self];rfl)
     (fun x hx => by
       rw [hkeys,List.getD_eq_getElem?_getD,List.getElem?_append_left (by simp;omega),List.getElem?_take_of_lt hx,List.getElem?_eq_getElem (by omega)]
       intro e
       exact hno (e ▸ List.getElem_mem _))
     (fun x hx => by have:=nameB_short (hKL.name x hx);omega)
     (by rw [hkids,List.getD_eq_getElem?_getD,List.getElem?_append_right (by simp;omega),List.length_take,Nat.min_eq_left (by omega),Nat.sub_self];rfl)
     (r8succ 24 _ (okO_small 24 _ (okO_of_check hcl (by rw [lenO_kind];decide)))) hcl i.ob.keys i.ob.kids hdr w
   rw [← hob] at h
   exact h
end Go.Proofs.YtfgdhcemidlnfaaGreatDoor
