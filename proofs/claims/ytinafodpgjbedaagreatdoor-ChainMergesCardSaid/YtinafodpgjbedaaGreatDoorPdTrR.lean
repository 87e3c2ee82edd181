/- Parts of the proof: TrR. -/
import Derived.Test.YtinafodpgjbedaaGreatDoorPdj
import Derived.Test.YtinafodpgjbedaaGreatDoorPdh
import Derived.Deep.AppendLies
set_option linter.all false
set_option maxRecDepth 100000
set_option maxHeartbeats 8000000
namespace Go.Proofs.YtinafodpgjbedaaGreatDoor
open Go.RowKit Fo
structure TrI (w wr : World) (B : Nat) (kv lv : Value) (bx : Array Value) : Prop where
 below : Below w.heap.size w wr
 size : B ≤ wr.heap.size
 box : wr.heap[w.heap.size]? = some (.cells bx 36 (0,0))
 res : wr.heap[w.heap.size + 1]? = some (.cells #[.int .i64 0,.int .i64 0,.int .i64 0,.string ⟨#[]⟩,.slice none 0 0,.slice none 0 0] 36 (0,0))
 out : wr.heap[w.heap.size + 2]? = some (.cells #[.int .i64 7,.int .i64 0,.int .i64 0,.string ⟨#[]⟩,kv,lv] 36 (0,0))
theorem TrI.step {w wr w' : World} {B : Nat} {kv lv : Value} {bx : Array Value} (h : TrI w wr B kv lv bx) (hb : Below B wr w') (hB : w.heap.size + 3 ≤ B) : TrI w w' B kv lv bx :=
 ⟨h.below.trans (hb.mono (by omega)),Nat.le_trans h.size hb.size,(hb.block _ (by omega)).trans h.box,(hb.block _ (by omega)).trans h.res,(hb.block _ (by omega)).trans h.out⟩
theorem TrI.keys {w wr : World} {B : Nat} {kv lv v : Value} {bx : Array Value} (h : TrI w wr B kv lv bx) : TrI w (wr.setCell ⟨w.heap.size + 2,4,none⟩ v) B v lv bx :=
 ⟨h.below.setCell (p:=⟨w.heap.size + 2,4,none⟩) (by show w.heap.size ≤ w.heap.size + 2;omega) _,by have:=h.size;simpa [World.setCell] using this,(Below.heap_setCell _ _ _ _ (by show w.heap.size ≠ w.heap.size + 2;omega)).trans h.box,(Below.heap_setCell _ _ _ _ (by show w.heap.size + 1 ≠ w.heap.size + 2;omega)).trans h.res,by rw [set_any h.out];rfl⟩
theorem TrI.kids {w wr : World} {B : Nat} {kv lv v : Value} {bx : Array Value} (h : TrI w wr B kv lv bx) : TrI w (wr.setCell ⟨w.heap.size + 2,5,none⟩ v) B kv v bx :=
 ⟨h.below.setCell (p:=⟨w.heap.size + 2,5,none⟩) (by show w.heap.size ≤ w.heap.size + 2;omega) _,by have:=h.size;simpa [World.setCell] using this,(Below.heap_setCell _ _ _ _ (by show w.heap.size ≠ w.heap.size + 2;omega)).trans h.box,(Below.heap_setCell _ _ _ _ (by show w.heap.size + 1 ≠ w.heap.size + 2;omega)).trans h.res,by rw [set_any h.out];rfl⟩
theorem rtrailerK (S : Nat → Prop) (d : Nat) (w : World) (o : Ob) (p1 p2 : Option Addr) (c1 n2 c2 : Nat) (hO : ObjAt S (d + 1) w (objCells o.kind o.n o.g o.s (.slice p1 n2 c1) (.slice p2 n2 c2)) o) (hS : ∀ b, S b → b < w.heap.size) (hn1 : o.keys.length = n2) (hn2 : o.kids.length = n2) (hl : n2 ≤ 8192)
   (h79 : o.kind = 7 ∨ o.kind = 9) (hsm : smallO (d + 1) o) (hc : checkB 24 o = 0) :
   Calls Tryz.prog 27 #[.agg #[.int .i64 o.kind,.int .i64 o.n,.int .i64 o.g,.string ⟨o.s.toArray⟩,.slice p1 n2 c1,.slice p2 n2 c2]] w fun e w' => ∃ q1 e1 m1 q2 e2 m2,e = .returned (.agg #[.int .i64 7,.int .i64 0,.int .i64 0,.string ⟨#[]⟩,.slice q1 e1 m1,.slice q2 e2 m2]) ∧
     ObjAt (fun b => w.heap.size ≤ b ∨ S b) (d + 1) w' (objCells 7 0 0 [] (.slice q1 e1 m1) (.slice q2 e2 m2)) (.mk 7 0 0 [] ((pickK keepT o n2).map (·.1)) ((pickK keepT o n2).map (·.2))) ∧ Below w.heap.size w w':=by
 have HC:=Lh (fun (W : World) (hW : Below w.heap.size w W) => (show Calls Tryz.prog 39 #[.agg #[.int .i64 o.kind,.int .i64 o.n,.int .i64 o.g,.string ⟨o.s.toArray⟩,.slice p1 n2 c1,.slice p2 n2 c2]] W (fun e w' => e = .returned (.int .i64 0) ∧ Below W.heap.size W w') from by
   have:=Check_in S (d + 1) W _ o (hO.kept (fun b h => hW.block b (hS b h)) _) hsm (fun b h => Nat.lt_of_lt_of_le (hS b h) hW.size) (check_in S 24 (Nat.le_refl _))
   rw [hc] at this
   exact this))
 obtain ⟨kv,dv,hcs,hK0,hR0⟩:=hO
 have hR : RowAt S d w (.slice p2 n2 c2) o.kids:=by
   simp [objCells] at hcs;rw [hcs.2];exact hR0
 have hK : KeysAt S w (.slice p1 n2 c1) o.keys:=by
   simp [objCells] at hcs;rw [hcs.1];exact hK0
 clear hR0 hcs hK0
 have HK:=Lh (And.intro hK (And.intro hR (And.intro hS (And.intro hn1 hn2))))
 obtain ⟨B,hB⟩ : ∃ B,w.heap.size + 3 = B:=⟨_,rfl⟩
 clear hR hK hS hn1 hn2 hsm hc
 generalize o.kind = K at h79 HC ⊢
 rcases h79 with h7 | h9
 · have d7 : (K != 7) = false:=by simpa using h7
   clear h7
   go_enter Tryz.func27,Tryz.ntmps27
   go_wp2_with fail
   refine (HC.out _ bel).mono ?_
   rintro e w1 ⟨rfl,hb1⟩
   have hz1:=hb1.size
   simp at hz1
   have hI1 : TrI w w1 B (.slice none 0 0) (.slice none 0 0) #[.int .i64 K,.int .i64 o.n,.int .i64 o.g,.string ⟨o.s.toArray⟩,.slice p1 n2 c1,.slice p2 n2 c2]:=by
     refine ⟨bel,by omega,(hb1.block _ (by first | (simp;done) | (simp;omega))).trans ?_,(hb1.block _ (by first | (simp;done) | (simp;omega))).trans ?_,(hb1.block _ (by first | (simp;done) | (simp;omega))).trans ?_⟩
     · exact (Below.heap_alloc _ _ _ (by first | (simp;done) | (simp;omega))).trans ((Below.heap_alloc _ _ _ (by simp)).trans (heap_new_at _ _ _ rfl))
     · exact (Below.heap_alloc _ _ _ (by simp)).trans (heap_new_at _ _ _ (by simp))
     · exact heap_new_at _ _ _ (by simp)
   clear hb1
   obtain ⟨x0,x1,x2,x3,x4,x5,xf⟩:=six_of hI1.box
   go_wp2
   go_loopw [24] (fun i wr => ∃ (k : Nat) (vs : List Ov) (kv lv : Value),k ≤ n2 ∧ i = .int .i64 k ∧ TrI w wr B kv lv #[.int .i64 K,.int .i64 o.n,.int .i64 o.g,.string ⟨o.s.toArray⟩,.slice p1 n2 c1,.slice p2 n2 c2] ∧ rownS encK 9 wr B kv ((pickK keepT o k).map (·.1)) ∧ rownS encOv 36 wr B lv vs ∧ Hid (OvsAt S d w vs ((pickK keepT o k).map (·.2)))) (fun i _ => n2 - (intOf i).toNat)
   case atStart => exact ⟨0,[],_,_,Nat.zero_le _,rfl,hI1,rownS_nil _ _,rownS_nil _ _,Lh (OvsAt.nil _ _ _)⟩
   case round =>
     clear x0 x1 x2 x3 x4 x5 xf hI1 hz1
     obtain ⟨k,vs,kv,lv,hk,rfl,hI,hr1,hr2,HV⟩:=hrel
     obtain ⟨PK,hPK⟩ : ∃ PK,pickK keepT o k = PK:=⟨_,rfl⟩
     have hpl:=pickK_len keepT o k
     rw [hPK] at hr1 HV hpl
     have hvl : vs.length = PK.length:=by have:=HV.out.1;simpa using this
     obtain ⟨KS,hKS⟩ : ∃ KS,PK.map (·.1) = KS:=⟨_,rfl⟩
     have hksl : KS.length ≤ 8192:=by rw [← hKS];simp;omega
     rw [hKS] at hr1
     obtain ⟨kp,kc,rfl⟩:=rown_slice hr1
     obtain ⟨lp,lc,rfl⟩:=rown_slice hr2
     obtain ⟨x0,x1,x2,x3,x4,x5,xf⟩:=six_of hI.box
     obtain ⟨z0,z1,z2,z3,z4,z5,zf⟩:=six_of hI.res
     obtain ⟨t0,t1,t2,t3,t4,t5,tf⟩:=six_of hI.out
     have hzr:=hI.size
     by_cases hlk : k < n2
     · have hkl : k < o.keys.length:=by rw [HK.out.2.2.2.1];exact hlk
       have hkd : k < o.kids.length:=by rw [HK.out.2.2.2.2];exact hlk
       have hKw : KeysAt S wr (.slice p1 n2 c1) o.keys:=HK.out.1.kept (fun b h => hI.below.block b (HK.out.2.2.1 b h))
       obtain ⟨b1,f1,rfl⟩ : ∃ b off,p1 = some ⟨b,off,none⟩:=by
         rcases hKw with ⟨e,_⟩ | ⟨b,off,c,e,_⟩
         · rw [e] at hkl;exact absurd hkl (Nat.not_lt_zero _)
         · cases e;exact ⟨_,_,rfl⟩
       obtain ⟨s1,g1⟩:=key_at hKw HK.out.2.2.2.1 k hlk
       have hRw : RowAt S d wr (.slice p2 n2 c2) o.kids:=HK.out.2.1.kept (fun b h => hI.below.block b (HK.out.2.2.1 b h))
       obtain ⟨b2,f2,rfl⟩ : ∃ b off,p2 = some ⟨b,off,none⟩:=by
         rcases hRw with ⟨e,_⟩ | ⟨b,off,c,e,_⟩
         · rw [e] at hkd;exact absurd hkd (Nat.not_lt_zero _)
         · cases e;exact ⟨_,_,rfl⟩
       obtain ⟨y,y1,u1,v1,y2,u2,v2,hy,hym,s2,O1,r0,r1,r2,r3,r4,r5⟩:=row_kid hRw HK.out.2.2.2.2 k hlk
       obtain ⟨x,hx⟩ : ∃ x,o.keys.getD k [] = x:=⟨_,rfl⟩
       have hxk : o.keys[k] = x:=by rw [← hx];simp [List.getD,hkl]
       have hyk : o.kids[k] = y:=by rw [← hy];simp [List.getD,hkd]
       have hsu:=pickK_succ (f:=keepT) hkl hkd
       rw [hxk,hyk] at hsu
       rw [hx] at g1
       rw [hPK] at hsu
       have w1' : (0 : Int) ≤ k:=by omega
       have w2' : (k : Int) < n2:=by omega
       cases e1 : (x == [73,68])
       · cases e2 : (x == [73,110,102,111])
         · cases e3 : (x == [82,111,111,116])
           · have hxe : keepT x = false:=by unfold keepT wID wInfo wRoot;rw [e1,e2,e3];rfl
             rw [hxe] at hsu
             have HSU:=Lh hsu
             have HKS:=Lh (And.intro hPK hKS)
             have HI:=Lh hI
             clear hKw hRw hy hym hx hxk hyk hsu hkl hkd hPK hKS O1 hI
             go_wp2
             go_roundw
             case rel =>
               refine ⟨k + 1,vs,_,_,by omega,by go_num,HI.out,?_,hr2,Lh ?_⟩
               · rw [HSU.out]
                 simp only [Bool.false_eq_true,if_false,List.append_nil]
                 rw [HKS.out.2]
                 exact hr1
               · rw [HSU.out]
                 simp only [Bool.false_eq_true,if_false,List.append_nil]
                 exact HV.out
             case measure => simp [intOf];omega
           · have hxe : keepT x = true:=by unfold keepT wID wInfo wRoot;rw [e3];simp
             rw [hxe] at hsu
             have HSU:=Lh hsu
             have HKS:=Lh (And.intro hPK hKS)
             have HO1:=Lh O1
             have hIB:=Lh hI.below
             have HR2:=Lh hr2
             have hb2lt : b2 < w.heap.size:=HK.out.2.2.1 b2 s2
             have hvl2 : vs.length ≤ 8192:=by omega
             clear hKw hRw hy hym hx hxk hyk hsu hkl hkd hPK hKS O1
             have HI:=Lh hI
             clear hI
             go_wp2_with (at_builtin;(refine rappend (E:=encK) rfl _ _ rfl Tryz.underlying33 Tryz.infoKs rfl (by decide) (by decide) B _ KS x hr1 rfl rfl (by omega) hzr ?_;intro p3 q3 w3 hr3 hb3 hz3 hg3;obtain ⟨s0',s1',s2',s3',s4',s5',sf'⟩:=six_of (HI.out.step hb3 (by omega)).out))
             obtain ⟨w4,hw4⟩ : ∃ w4,w3.setCell ⟨w.heap.size + 2,4,none⟩ (.slice p3 (KS.length + 1) q3) = w4:=⟨_,rfl⟩
             rw [hw4]
             have hI4 : TrI w w4 B (.slice p3 (KS.length + 1) q3) (.slice lp vs.length lc) #[.int .i64 K,.int .i64 o.n,.int .i64 o.g,.string ⟨o.s.toArray⟩,.slice (some ⟨b1,f1,none⟩) n2 c1,.slice (some ⟨b2,f2,none⟩) n2 c2]:=by rw [← hw4];exact ((HI.out.step hb3 (by omega)).keys)
             have hr4 : rownS encK 9 w4 B (.slice p3 (KS.length + 1) q3) (KS ++ [x]):=by rw [← hw4];exact row_set hr3 (by omega)
             have hro4 : rownS encOv 36 w4 B (.slice lp vs.length lc) vs:=by
               rw [← hw4]
               exact row_set (row_other (HR2.out.below ((Below.refl _ wr).alloc (Nat.le_refl _) (.cells (encK.cells x).toArray 9))) (World.ownsRow.alloc hr1 _) (by decide) hg3) (by omega)
             have hk4 : w4.heap[b2]? = wr.heap[b2]?:=by rw [← hw4,Below.heap_setCell w3 ⟨w.heap.size + 2,4,none⟩ _ b2 (by show b2 ≠ w.heap.size + 2;omega)];exact hb3.block b2 (by omega)
             have kk:=fun o => World.cell?_of_block (a:=⟨b2,o,none⟩) hk4
             have l0:=(kk _).trans r0
             have l1:=(kk _).trans r1
             have l2:=(kk _).trans r2
             have l3:=(kk _).trans r3
             have l4:=(kk _).trans r4
             have l5:=(kk _).trans r5
             clear kk hk4 hw4 hr3 hb3 hz3 hg3 s0' s1' s2' s3' s4' s5' sf' HI r0 r1 r2 r3 r4 r5 x0 x1 x2 x3 x4 x5 xf z0 z1 z2 z3 z4 z5 zf t0 t1 t2 t3 t4 t5 tf hr1 hr2 HR2 hzr
             obtain ⟨i0,hi0,y0',y1',y2'⟩:=info_parts Tryz.infoOs
             obtain ⟨N,hN⟩ : ∃ N,vs.length = N:=⟨_,rfl⟩
             rw [hN] at hI4 hro4 hvl2
             have hrow2 : w4.drew.ownsRow B 36 6 (.slice lp N lc) N (encOv.row vs):=by have h:=hro4;unfold rownS at h;rw [hN] at h;exact h
             obtain ⟨x0,x1,x2,x3,x4,x5,xf⟩:=six_of hI4.box
             obtain ⟨t0,t1,t2,t3,t4,t5,tf⟩:=six_of hI4.out
             have hzr:=hI4.size
             have hm1 : N + 1 ≤ maxLen:=by unfold maxLen;omega
             have hm2 : (N + 1) * 88 ≤ 140737488355328:=by omega
             have hkeep:=own_base hrow2
             have lt0 : w.heap.size < w4.heap.size:=by omega
             have lt2 : w.heap.size + 2 < w4.heap.size:=by omega
             have ltb : b2 < w4.heap.size:=by omega
             have ne0 : ¬ w.heap.size = w4.heap.size:=by omega
             have ne2 : ¬ w.heap.size + 2 = w4.heap.size:=by omega
             have neb : ¬ b2 = w4.heap.size:=by omega
             go_region_law (refine step_append_lies _ (by rfl) _ _ _ (by rfl) B 36 i0 (.agg #[.int .i64 0,.int .i64 0,.int .i64 0,.string ⟨#[]⟩,.slice none 0 0,.slice none 0 0]) 6 88 Tryz.underlying34 hi0 y0' y1' y2' rfl (by omega) (.slice lp N lc) N (encOv.row vs) (by rfl) (hrow2.alloc _) ⟨w4.heap.size,0,none⟩ 1 1 (objCells y.kind y.n y.g y.s (.slice y1 u1 v1) (.slice y2 u2 v2)) (by rfl) (by rfl) (World.news_of_block (cs:=#[.int .i64 y.kind,.int .i64 y.n,.int .i64 y.g,.string ⟨y.s.toArray⟩,.slice y1 u1 v1,.slice y2 u2 v2]) (t:=36) (fr:=(0,0)) (heap_alloc_new w4.drew _)) (objCells_one _ _ _ _ _ _ _) (by omega) hm1 hm2 (by simp;omega) (w4.heap.size + 1) (by simp) ?_;intro g2 cap w5 hown5 hgrow hat hlt5;have hX5 : w5.heap[w.heap.size + 2]? = some (.cells #[.int .i64 7,.int .i64 0,.int .i64 0,.string ⟨#[]⟩,.slice p3 (KS.length + 1) q3,.slice lp N lc] 36 (0,0)):=(hgrow.block _ (by first | (simp;done) | (simp;omega)) (fun e => by have:=hkeep _ e.symm;omega)).trans ((Below.heap_alloc _ _ _ (by show w.heap.size + 2 < w4.heap.size;omega)).trans hI4.out);obtain ⟨s0',s1',s2',s3',s4',s5',sf'⟩:=six_of hX5)
             all_goals
               have hR5 : rownS encOv 36 w5 B (.slice (some ⟨g2,0,none⟩) (N + 1) cap) (vs ++ [⟨y.kind,y.n,y.g,⟨y.s.toArray⟩,y1,u1,v1,y2,u2,v2⟩]):=by
                 unfold rownS
                 rw [List.length_append,hN,Enc.row_append]
                 exact hown5
               have hb5 : Below B w4 w5:=(((Below.refl B w4).drew).alloc hzr _).grown hgrow (by first | (simp;done) | (simp;omega)) (fun k hk => by have:=hkeep k hk;omega)
               have hI5:=(hI4.step hb5 (by omega)).kids (v:=.slice (some ⟨g2,0,none⟩) (N + 1) cap)
               have hK5:=row_set (o:=5) (u:=.slice (some ⟨g2,0,none⟩) (N + 1) cap) (row_other (hr4.below (((Below.refl w4.heap.size w4).drew).alloc (Nat.le_refl _) (.cells #[.int .i64 y.kind,.int .i64 y.n,.int .i64 y.g,.string ⟨y.s.toArray⟩,.slice y1 u1 v1,.slice y2 u2 v2] 36))) (hrow2.alloc _) (by decide) hgrow) (show w.heap.size + 2 < B by omega)
               have hR6:=row_set (o:=5) (u:=.slice (some ⟨g2,0,none⟩) (N + 1) cap) hR5 (show w.heap.size + 2 < B by omega)
               have HV6:=HV.out.push (v:=⟨y.kind,y.n,y.g,⟨y.s.toArray⟩,y1,u1,v1,y2,u2,v2⟩) (o:=y) (HO1.out.kept (w':=w) (fun b h => (hIB.out.block b (HK.out.2.2.1 b h)).symm) d)
               have HX:=Lh (And.intro hI5 (And.intro hK5 (And.intro hR6 HV6)))
               clear hgrow hat hown5 hkeep hR5 hb5 hI5 hK5 hR6 HV6 hX5 s0' s1' s2' s3' s4' s5' sf' hI4 hr4 hro4 hrow2
               go_wp2
               go_roundw
             all_goals first
               | (case rel =>
                   refine ⟨k + 1,vs ++ [⟨y.kind,y.n,y.g,⟨y.s.toArray⟩,y1,u1,v1,y2,u2,v2⟩],.slice p3 (KS.length + 1) q3,.slice (some ⟨g2,0,none⟩) (N + 1) cap,by omega,by go_num,HX.out.1,?_,HX.out.2.2.1,Lh ?_⟩
                   · rw [HSU.out]
                     simp only [if_true,List.map_append,List.map_cons,List.map_nil]
                     rw [HKS.out.2]
                     exact HX.out.2.1
                   · rw [HSU.out]
                     simp only [if_true,List.map_append,List.map_cons,List.map_nil]
                     exact HX.out.2.2.2)
               | (case measure => simp [intOf];omega)
         · have hxe : keepT x = true:=by unfold keepT wID wInfo wRoot;rw [e2];simp
           rw [hxe] at hsu
           have HSU:=Lh hsu
           have HKS:=Lh (And.intro hPK hKS)
           have HO1:=Lh O1
           have hIB:=Lh hI.below
           have HR2:=Lh hr2
           have hb2lt : b2 < w.heap.size:=HK.out.2.2.1 b2 s2
           have hvl2 : vs.length ≤ 8192:=by omega
           clear hKw hRw hy hym hx hxk hyk hsu hkl hkd hPK hKS O1
           have HI:=Lh hI
           clear hI
           go_wp2_with (at_builtin;(refine rappend (E:=encK) rfl _ _ rfl Tryz.underlying33 Tryz.infoKs rfl (by decide) (by decide) B _ KS x hr1 rfl rfl (by omega) hzr ?_;intro p3 q3 w3 hr3 hb3 hz3 hg3;obtain ⟨s0',s1',s2',s3',s4',s5',sf'⟩:=six_of (HI.out.step hb3 (by omega)).out))
           obtain ⟨w4,hw4⟩ : ∃ w4,w3.setCell ⟨w.heap.size + 2,4,none⟩ (.slice p3 (KS.length + 1) q3) = w4:=⟨_,rfl⟩
           rw [hw4]
           have hI4 : TrI w w4 B (.slice p3 (KS.length + 1) q3) (.slice lp vs.length lc) #[.int .i64 K,.int .i64 o.n,.int .i64 o.g,.string ⟨o.s.toArray⟩,.slice (some ⟨b1,f1,none⟩) n2 c1,.slice (some ⟨b2,f2,none⟩) n2 c2]:=by rw [← hw4];exact ((HI.out.step hb3 (by omega)).keys)
           have hr4 : rownS encK 9 w4 B (.slice p3 (KS.length + 1) q3) (KS ++ [x]):=by rw [← hw4];exact row_set hr3 (by omega)
           have hro4 : rownS encOv 36 w4 B (.slice lp vs.length lc) vs:=by
             rw [← hw4]
             exact row_set (row_other (HR2.out.below ((Below.refl _ wr).alloc (Nat.le_refl _) (.cells (encK.cells x).toArray 9))) (World.ownsRow.alloc hr1 _) (by decide) hg3) (by omega)
           have hk4 : w4.heap[b2]? = wr.heap[b2]?:=by rw [← hw4,Below.heap_setCell w3 ⟨w.heap.size + 2,4,none⟩ _ b2 (by show b2 ≠ w.heap.size + 2;omega)];exact hb3.block b2 (by omega)
           have kk:=fun o => World.cell?_of_block (a:=⟨b2,o,none⟩) hk4
           have l0:=(kk _).trans r0
           have l1:=(kk _).trans r1
           have l2:=(kk _).trans r2
           have l3:=(kk _).trans r3
           have l4:=(kk _).trans r4
           have l5:=(kk _).trans r5
           clear kk hk4 hw4 hr3 hb3 hz3 hg3 s0' s1' s2' s3' s4' s5' sf' HI r0 r1 r2 r3 r4 r5 x0 x1 x2 x3 x4 x5 xf z0 z1 z2 z3 z4 z5 zf t0 t1 t2 t3 t4 t5 tf hr1 hr2 HR2 hzr
           obtain ⟨i0,hi0,y0',y1',y2'⟩:=info_parts Tryz.infoOs
           obtain ⟨N,hN⟩ : ∃ N,vs.length = N:=⟨_,rfl⟩
           rw [hN] at hI4 hro4 hvl2
           have hrow2 : w4.drew.ownsRow B 36 6 (.slice lp N lc) N (encOv.row vs):=by have h:=hro4;unfold rownS at h;rw [hN] at h;exact h
           obtain ⟨x0,x1,x2,x3,x4,x5,xf⟩:=six_of hI4.box
           obtain ⟨t0,t1,t2,t3,t4,t5,tf⟩:=six_of hI4.out
           have hzr:=hI4.size
           have hm1 : N + 1 ≤ maxLen:=by unfold maxLen;omega
           have hm2 : (N + 1) * 88 ≤ 140737488355328:=by omega
           have hkeep:=own_base hrow2
           have lt0 : w.heap.size < w4.heap.size:=by omega
           have lt2 : w.heap.size + 2 < w4.heap.size:=by omega
           have ltb : b2 < w4.heap.size:=by omega
           have ne0 : ¬ w.heap.size = w4.heap.size:=by omega
           have ne2 : ¬ w.heap.size + 2 = w4.heap.size:=by omega
           have neb : ¬ b2 = w4.heap.size:=by omega
           go_region_law (refine step_append_lies _ (by rfl) _ _ _ (by rfl) B 36 i0 (.agg #[.int .i64 0,.int .i64 0,.int .i64 0,.string ⟨#[]⟩,.slice none 0 0,.slice none 0 0]) 6 88 Tryz.underlying34 hi0 y0' y1' y2' rfl (by omega) (.slice lp N lc) N (encOv.row vs) (by rfl) (hrow2.alloc _) ⟨w4.heap.size,0,none⟩ 1 1 (objCells y.kind y.n y.g y.s (.slice y1 u1 v1) (.slice y2 u2 v2)) (by rfl) (by rfl) (World.news_of_block (cs:=#[.int .i64 y.kind,.int .i64 y.n,.int .i64 y.g,.string ⟨y.s.toArray⟩,.slice y1 u1 v1,.slice y2 u2 v2]) (t:=36) (fr:=(0,0)) (heap_alloc_new w4.drew _)) (objCells_one _ _ _ _ _ _ _) (by omega) hm1 hm2 (by simp;omega) (w4.heap.size + 1) (by simp) ?_;intro g2 cap w5 hown5 hgrow hat hlt5;have hX5 : w5.heap[w.heap.size + 2]? = some (.cells #[.int .i64 7,.int .i64 0,.int .i64 0,.string ⟨#[]⟩,.slice p3 (KS.length + 1) q3,.slice lp N lc] 36 (0,0)):=(hgrow.block _ (by first | (simp;done) | (simp;omega)) (fun e => by have:=hkeep _ e.symm;omega)).trans ((Below.heap_alloc _ _ _ (by show w.heap.size + 2 < w4.heap.size;omega)).trans hI4.out);obtain ⟨s0',s1',s2',s3',s4',s5',sf'⟩:=six_of hX5)
           all_goals
             have hR5 : rownS encOv 36 w5 B (.slice (some ⟨g2,0,none⟩) (N + 1) cap) (vs ++ [⟨y.kind,y.n,y.g,⟨y.s.toArray⟩,y1,u1,v1,y2,u2,v2⟩]):=by
               unfold rownS
               rw [List.length_append,hN,Enc.row_append]
               exact hown5
             have hb5 : Below B w4 w5:=(((Below.refl B w4).drew).alloc hzr _).grown hgrow (by first | (simp;done) | (simp;omega)) (fun k hk => by have:=hkeep k hk;omega)
             have hI5:=(hI4.step hb5 (by omega)).kids (v:=.slice (some ⟨g2,0,none⟩) (N + 1) cap)
             have hK5:=row_set (o:=5) (u:=.slice (some ⟨g2,0,none⟩) (N + 1) cap) (row_other (hr4.below (((Below.refl w4.heap.size w4).drew).alloc (Nat.le_refl _) (.cells #[.int .i64 y.kind,.int .i64 y.n,.int .i64 y.g,.string ⟨y.s.toArray⟩,.slice y1 u1 v1,.slice y2 u2 v2] 36))) (hrow2.alloc _) (by decide) hgrow) (show w.heap.size + 2 < B by omega)
             have hR6:=row_set (o:=5) (u:=.slice (some ⟨g2,0,none⟩) (N + 1) cap) hR5 (show w.heap.size + 2 < B by omega)
             have HV6:=HV.out.push (v:=⟨y.kind,y.n,y.g,⟨y.s.toArray⟩,y1,u1,v1,y2,u2,v2⟩) (o:=y) (HO1.out.kept (w':=w) (fun b h => (hIB.out.block b (HK.out.2.2.1 b h)).symm) d)
             have HX:=Lh (And.intro hI5 (And.intro hK5 (And.intro hR6 HV6)))
             clear hgrow hat hown5 hkeep hR5 hb5 hI5 hK5 hR6 HV6 hX5 s0' s1' s2' s3' s4' s5' sf' hI4 hr4 hro4 hrow2
             go_wp2
             go_roundw
           all_goals first
             | (case rel =>
                 refine ⟨k + 1,vs ++ [⟨y.kind,y.n,y.g,⟨y.s.toArray⟩,y1,u1,v1,y2,u2,v2⟩],.slice p3 (KS.length + 1) q3,.slice (some ⟨g2,0,none⟩) (N + 1) cap,by omega,by go_num,HX.out.1,?_,HX.out.2.2.1,Lh ?_⟩
                 · rw [HSU.out]
                   simp only [if_true,List.map_append,List.map_cons,List.map_nil]
                   rw [HKS.out.2]
                   exact HX.out.2.1
                 · rw [HSU.out]
                   simp only [if_true,List.map_append,List.map_cons,List.map_nil]
                   exact HX.out.2.2.2)
             | (case measure => simp [intOf];omega)
       · have hxe : keepT x = true:=by unfold keepT wID wInfo wRoot;rw [e1];simp
         rw [hxe] at hsu
         have HSU:=Lh hsu
         have HKS:=Lh (And.intro hPK hKS)
         have HO1:=Lh O1
         have hIB:=Lh hI.below
         have HR2:=Lh hr2
         have hb2lt : b2 < w.heap.size:=HK.out.2.2.1 b2 s2
         have hvl2 : vs.length ≤ 8192:=by omega
         clear hKw hRw hy hym hx hxk hyk hsu hkl hkd hPK hKS O1
         have HI:=Lh hI
         clear hI
         go_wp2_with (at_builtin;(refine rappend (E:=encK) rfl _ _ rfl Tryz.underlying33 Tryz.infoKs rfl (by decide) (by decide) B _ KS x hr1 rfl rfl (by omega) hzr ?_;intro p3 q3 w3 hr3 hb3 hz3 hg3;obtain ⟨s0',s1',s2',s3',s4',s5',sf'⟩:=six_of (HI.out.step hb3 (by omega)).out))
         obtain ⟨w4,hw4⟩ : ∃ w4,w3.setCell ⟨w.heap.size + 2,4,none⟩ (.slice p3 (KS.length + 1) q3) = w4:=⟨_,rfl⟩
         rw [hw4]
         have hI4 : TrI w w4 B (.slice p3 (KS.length + 1) q3) (.slice lp vs.length lc) #[.int .i64 K,.int .i64 o.n,.int .i64 o.g,.string ⟨o.s.toArray⟩,.slice (some ⟨b1,f1,none⟩) n2 c1,.slice (some ⟨b2,f2,none⟩) n2 c2]:=by rw [← hw4];exact ((HI.out.step hb3 (by omega)).keys)
         have hr4 : rownS encK 9 w4 B (.slice p3 (KS.length + 1) q3) (KS ++ [x]):=by rw [← hw4];exact row_set hr3 (by omega)
         have hro4 : rownS encOv 36 w4 B (.slice lp vs.length lc) vs:=by
           rw [← hw4]
           exact row_set (row_other (HR2.out.below ((Below.refl _ wr).alloc (Nat.le_refl _) (.cells (encK.cells x).toArray 9))) (World.ownsRow.alloc hr1 _) (by decide) hg3) (by omega)
         have hk4 : w4.heap[b2]? = wr.heap[b2]?:=by rw [← hw4,Below.heap_setCell w3 ⟨w.heap.size + 2,4,none⟩ _ b2 (by show b2 ≠ w.heap.size + 2;omega)];exact hb3.block b2 (by omega)
         have kk:=fun o => World.cell?_of_block (a:=⟨b2,o,none⟩) hk4
         have l0:=(kk _).trans r0
         have l1:=(kk _).trans r1
         have l2:=(kk _).trans r2
         have l3:=(kk _).trans r3
         have l4:=(kk _).trans r4
         have l5:=(kk _).trans r5
         clear kk hk4 hw4 hr3 hb3 hz3 hg3 s0' s1' s2' s3' s4' s5' sf' HI r0 r1 r2 r3 r4 r5 x0 x1 x2 x3 x4 x5 xf z0 z1 z2 z3 z4 z5 zf t0 t1 t2 t3 t4 t5 tf hr1 hr2 HR2 hzr
         obtain ⟨i0,hi0,y0',y1',y2'⟩:=info_parts Tryz.infoOs
         obtain ⟨N,hN⟩ : ∃ N,vs.length = N:=⟨_,rfl⟩
         rw [hN] at hI4 hro4 hvl2
         have hrow2 : w4.drew.ownsRow B 36 6 (.slice lp N lc) N (encOv.row vs):=by have h:=hro4;unfold rownS at h;rw [hN] at h;exact h
         obtain ⟨x0,x1,x2,x3,x4,x5,xf⟩:=six_of hI4.box
         obtain ⟨t0,t1,t2,t3,t4,t5,tf⟩:=six_of hI4.out
         have hzr:=hI4.size
         have hm1 : N + 1 ≤ maxLen:=by unfold maxLen;omega
         have hm2 : (N + 1) * 88 ≤ 140737488355328:=by omega
         have hkeep:=own_base hrow2
         have lt0 : w.heap.size < w4.heap.size:=by omega
         have lt2 : w.heap.size + 2 < w4.heap.size:=by omega
         have ltb : b2 < w4.heap.size:=by omega
         have ne0 : ¬ w.heap.size = w4.heap.size:=by omega
         have ne2 : ¬ w.heap.size + 2 = w4.heap.size:=by omega
         have neb : ¬ b2 = w4.heap.size:=by omega
         go_region_law (refine step_append_lies _ (by rfl) _ _ _ (by rfl) B 36 i0 (.agg #[.int .i64 0,.int .i64 0,.int .i64 0,.string ⟨#[]⟩,.slice none 0 0,.slice none 0 0]) 6 88 Tryz.underlying34 hi0 y0' y1' y2' rfl (by omega) (.slice lp N lc) N (encOv.row vs) (by rfl) (hrow2.alloc _) ⟨w4.heap.size,0,none⟩ 1 1 (objCells y.kind y.n y.g y.s (.slice y1 u1 v1) (.slice y2 u2 v2)) (by rfl) (by rfl) (World.news_of_block (cs:=#[.int .i64 y.kind,.int .i64 y.n,.int .i64 y.g,.string ⟨y.s.toArray⟩,.slice y1 u1 v1,.slice y2 u2 v2]) (t:=36) (fr:=(0,0)) (heap_alloc_new w4.drew _)) (objCells_one _ _ _ _ _ _ _) (by omega) hm1 hm2 (by simp;omega) (w4.heap.size + 1) (by simp) ?_;intro g2 cap w5 hown5 hgrow hat hlt5;have hX5 : w5.heap[w.heap.size + 2]? = some (.cells #[.int .i64 7,.int .i64 0,.int .i64 0,.string ⟨#[]⟩,.slice p3 (KS.length + 1) q3,.slice lp N lc] 36 (0,0)):=(hgrow.block _ (by first | (simp;done) | (simp;omega)) (fun e => by have:=hkeep _ e.symm;omega)).trans ((Below.heap_alloc _ _ _ (by show w.heap.size + 2 < w4.heap.size;omega)).trans hI4.out);obtain ⟨s0',s1',s2',s3',s4',s5',sf'⟩:=six_of hX5)
         all_goals
           have hR5 : rownS encOv 36 w5 B (.slice (some ⟨g2,0,none⟩) (N + 1) cap) (vs ++ [⟨y.kind,y.n,y.g,⟨y.s.toArray⟩,y1,u1,v1,y2,u2,v2⟩]):=by
             unfold rownS
             rw [List.length_append,hN,Enc.row_append]
             exact hown5
           have hb5 : Below B w4 w5:=(((Below.refl B w4).drew).alloc hzr _).grown hgrow (by first | (simp;done) | (simp;omega)) (fun k hk => by have:=hkeep k hk;omega)
           have hI5:=(hI4.step hb5 (by omega)).kids (v:=.slice (some ⟨g2,0,none⟩) (N + 1) cap)
           have hK5:=row_set (o:=5) (u:=.slice (some ⟨g2,0,none⟩) (N + 1) cap) (row_other (hr4.below (((Below.refl w4.heap.size w4).drew).alloc (Nat.le_refl _) (.cells #[.int .i64 y.kind,.int .i64 y.n,.int .i64 y.g,.string ⟨y.s.toArray⟩,.slice y1 u1 v1,.slice y2 u2 v2] 36))) (hrow2.alloc _) (by decide) hgrow) (show w.heap.size + 2 < B by omega)
           have hR6:=row_set (o:=5) (u:=.slice (some ⟨g2,0,none⟩) (N + 1) cap) hR5 (show w.heap.size + 2 < B by omega)
           have HV6:=HV.out.push (v:=⟨y.kind,y.n,y.g,⟨y.s.toArray⟩,y1,u1,v1,y2,u2,v2⟩) (o:=y) (HO1.out.kept (w':=w) (fun b h => (hIB.out.block b (HK.out.2.2.1 b h)).symm) d)
           have HX:=Lh (And.intro hI5 (And.intro hK5 (And.intro hR6 HV6)))
           clear hgrow hat hown5 hkeep hR5 hb5 hI5 hK5 hR6 HV6 hX5 s0' s1' s2' s3' s4' s5' sf' hI4 hr4 hro4 hrow2
           go_wp2
           go_roundw
         all_goals first
           | (case rel =>
               refine ⟨k + 1,vs ++ [⟨y.kind,y.n,y.g,⟨y.s.toArray⟩,y1,u1,v1,y2,u2,v2⟩],.slice p3 (KS.length + 1) q3,.slice (some ⟨g2,0,none⟩) (N + 1) cap,by omega,by go_num,HX.out.1,?_,HX.out.2.2.1,Lh ?_⟩
               · rw [HSU.out]
                 simp only [if_true,List.map_append,List.map_cons,List.map_nil]
                 rw [HKS.out.2]
                 exact HX.out.2.1
               · rw [HSU.out]
                 simp only [if_true,List.map_append,List.map_cons,List.map_nil]
                 exact HX.out.2.2.2)
           | (case measure => simp [intOf];omega)
     · have hkn : k = n2:=by omega
       subst hkn
       have hO2:=obj_rows (K:=7) (N:=0) (G:=0) (s:=[]) hr1 hr2 (HV.out.kept (fun b h => hI.below.block b (HK.out.2.2.1 b h)))
       have HO2:=Lh hO2
       have HKS:=Lh (And.intro hPK hKS)
       obtain ⟨e1,he1⟩ : ∃ e1,KS.length = e1:=⟨_,rfl⟩
       obtain ⟨e2,he2⟩ : ∃ e2,vs.length = e2:=⟨_,rfl⟩
       rw [he1] at HO2 hI t4
       rw [he2] at HO2 hI t5
       have HI:=Lh hI
       clear hr1 hr2 hO2 he1 he2 hI hPK hKS
       go_wp2
       refine bodyPost_ret (v:=.agg #[.int .i64 7,.int .i64 0,.int .i64 0,.string ⟨#[]⟩,.slice kp e1 kc,.slice lp e2 lc]) (by simp [results,Tryz.results27,go_sem,z0,z1,z2,z3,z4,z5,zf]) rfl ⟨kp,e1,kc,lp,e2,lc,rfl,?_,?_⟩
       · rw [HKS.out.1,HKS.out.2]
         refine ((HO2.out.kept (w':=_) ?_ (d + 1)).weaken (fun b h _ => h.elim (fun h => .inl (by omega)) .inr) (d + 1))
         intro b hb
         have hb2 : b ≠ w.heap.size + 1:=by
           rcases hb with hb | hb
           · omega
           · have:=HK.out.2.2.1 b hb;omega
         iterate 6 (refine (Below.heap_setCell _ _ _ _ hb2).trans ?_)
         rfl
       · exact ((((((HI.out.below.setCell (p:=⟨w.heap.size + 1,0,none⟩) (Nat.le_succ _) _).setCell (p:=⟨w.heap.size + 1,1,none⟩) (Nat.le_succ _) _).setCell (p:=⟨w.heap.size + 1,2,none⟩) (Nat.le_succ _) _).setCell (p:=⟨w.heap.size + 1,3,none⟩) (Nat.le_succ _) _).setCell (p:=⟨w.heap.size + 1,4,none⟩) (Nat.le_succ _) _).setCell (p:=⟨w.heap.size + 1,5,none⟩) (Nat.le_succ _) _)
 · have d7 : (K != 7) = true:=by rw [h9];decide
   have n7 : ¬ K = 7:=by rw [h9];decide
   have d9 : (K != 9) = false:=by simpa using h9
   clear h9
   go_enter Tryz.func27,Tryz.ntmps27
   go_wp2_with fail
   refine (HC.out _ bel).mono ?_
   rintro e w1 ⟨rfl,hb1⟩
   have hz1:=hb1.size
   simp at hz1
   have hI1 : TrI w w1 B (.slice none 0 0) (.slice none 0 0) #[.int .i64 K,.int .i64 o.n,.int .i64 o.g,.string ⟨o.s.toArray⟩,.slice p1 n2 c1,.slice p2 n2 c2]:=by
     refine ⟨bel,by omega,(hb1.block _ (by first | (simp;done) | (simp;omega))).trans ?_,(hb1.block _ (by first | (simp;done) | (simp;omega))).trans ?_,(hb1.block _ (by first | (simp;done) | (simp;omega))).trans ?_⟩
     · exact (Below.heap_alloc _ _ _ (by first | (simp;done) | (simp;omega))).trans ((Below.heap_alloc _ _ _ (by simp)).trans (heap_new_at _ _ _ rfl))
     · exact (Below.heap_alloc _ _ _ (by simp)).trans (heap_new_at _ _ _ (by simp))
     · exact heap_new_at _ _ _ (by simp)
   clear hb1
   obtain ⟨x0,x1,x2,x3,x4,x5,xf⟩:=six_of hI1.box
   go_wp2
   go_loopw [24] (fun i wr => ∃ (k : Nat) (vs : List Ov) (kv lv : Value),k ≤ n2 ∧ i = .int .i64 k ∧ TrI w wr B kv lv #[.int .i64 K,.int .i64 o.n,.int .i64 o.g,.string ⟨o.s.toArray⟩,.slice p1 n2 c1,.slice p2 n2 c2] ∧ rownS encK 9 wr B kv ((pickK keepT o k).map (·.1)) ∧ rownS encOv 36 wr B lv vs ∧ Hid (OvsAt S d w vs ((pickK keepT o k).map (·.2)))) (fun i _ => n2 - (intOf i).toNat)
   case atStart => exact ⟨0,[],_,_,Nat.zero_le _,rfl,hI1,rownS_nil _ _,rownS_nil _ _,Lh (OvsAt.nil _ _ _)⟩
   case round =>
     clear x0 x1 x2 x3 x4 x5 xf hI1 hz1
     obtain ⟨k,vs,kv,lv,hk,rfl,hI,hr1,hr2,HV⟩:=hrel
     obtain ⟨PK,hPK⟩ : ∃ PK,pickK keepT o k = PK:=⟨_,rfl⟩
     have hpl:=pickK_len keepT o k
     rw [hPK] at hr1 HV hpl
     have hvl : vs.length = PK.length:=by have:=HV.out.1;simpa using this
     obtain ⟨KS,hKS⟩ : ∃ KS,PK.map (·.1) = KS:=⟨_,rfl⟩
     have hksl : KS.length ≤ 8192:=by rw [← hKS];simp;omega
     rw [hKS] at hr1
     obtain ⟨kp,kc,rfl⟩:=rown_slice hr1
     obtain ⟨lp,lc,rfl⟩:=rown_slice hr2
     obtain ⟨x0,x1,x2,x3,x4,x5,xf⟩:=six_of hI.box
     obtain ⟨z0,z1,z2,z3,z4,z5,zf⟩:=six_of hI.res
     obtain ⟨t0,t1,t2,t3,t4,t5,tf⟩:=six_of hI.out
     have hzr:=hI.size
     by_cases hlk : k < n2
     · have hkl : k < o.keys.length:=by rw [HK.out.2.2.2.1];exact hlk
       have hkd : k < o.kids.length:=by rw [HK.out.2.2.2.2];exact hlk
       have hKw : KeysAt S wr (.slice p1 n2 c1) o.keys:=HK.out.1.kept (fun b h => hI.below.block b (HK.out.2.2.1 b h))
       obtain ⟨b1,f1,rfl⟩ : ∃ b off,p1 = some ⟨b,off,none⟩:=by
         rcases hKw with ⟨e,_⟩ | ⟨b,off,c,e,_⟩
         · rw [e] at hkl;exact absurd hkl (Nat.not_lt_zero _)
         · cases e;exact ⟨_,_,rfl⟩
       obtain ⟨s1,g1⟩:=key_at hKw HK.out.2.2.2.1 k hlk
       have hRw : RowAt S d wr (.slice p2 n2 c2) o.kids:=HK.out.2.1.kept (fun b h => hI.below.block b (HK.out.2.2.1 b h))
       obtain ⟨b2,f2,rfl⟩ : ∃ b off,p2 = some ⟨b,off,none⟩:=by
         rcases hRw with ⟨e,_⟩ | ⟨b,off,c,e,_⟩
         · rw [e] at hkd;exact absurd hkd (Nat.not_lt_zero _)
         · cases e;exact ⟨_,_,rfl⟩
       obtain ⟨y,y1,u1,v1,y2,u2,v2,hy,hym,s2,O1,r0,r1,r2,r3,r4,r5⟩:=row_kid hRw HK.out.2.2.2.2 k hlk
       obtain ⟨x,hx⟩ : ∃ x,o.keys.getD k [] = x:=⟨_,rfl⟩
       have hxk : o.keys[k] = x:=by rw [← hx];simp [List.getD,hkl]
       have hyk : o.kids[k] = y:=by rw [← hy];simp [List.getD,hkd]
       have hsu:=pickK_succ (f:=keepT) hkl hkd
       rw [hxk,hyk] at hsu
       rw [hx] at g1
       rw [hPK] at hsu
       have w1' : (0 : Int) ≤ k:=by omega
       have w2' : (k : Int) < n2:=by omega
       cases e1 : (x == [73,68])
       · cases e2 : (x == [73,110,102,111])
         · cases e3 : (x == [82,111,111,116])
           · have hxe : keepT x = false:=by unfold keepT wID wInfo wRoot;rw [e1,e2,e3];rfl
             rw [hxe] at hsu
             have HSU:=Lh hsu
             have HKS:=Lh (And.intro hPK hKS)
             have HI:=Lh hI
             clear hKw hRw hy hym hx hxk hyk hsu hkl hkd hPK hKS O1 hI
             go_wp2
             go_roundw
             case rel =>
               refine ⟨k + 1,vs,_,_,by omega,by go_num,HI.out,?_,hr2,Lh ?_⟩
               · rw [HSU.out]
                 simp only [Bool.false_eq_true,if_false,List.append_nil]
                 rw [HKS.out.2]
                 exact hr1
               · rw [HSU.out]
                 simp only [Bool.false_eq_true,if_false,List.append_nil]
                 exact HV.out
             case measure => simp [intOf];omega
           · have hxe : keepT x = true:=by unfold keepT wID wInfo wRoot;rw [e3];simp
             rw [hxe] at hsu
             have HSU:=Lh hsu
             have HKS:=Lh (And.intro hPK hKS)
             have HO1:=Lh O1
             have hIB:=Lh hI.below
             have HR2:=Lh hr2
             have hb2lt : b2 < w.heap.size:=HK.out.2.2.1 b2 s2
             have hvl2 : vs.length ≤ 8192:=by omega
             clear hKw hRw hy hym hx hxk hyk hsu hkl hkd hPK hKS O1
             have HI:=Lh hI
             clear hI
             go_wp2_with (at_builtin;(refine rappend (E:=encK) rfl _ _ rfl Tryz.underlying33 Tryz.infoKs rfl (by decide) (by decide) B _ KS x hr1 rfl rfl (by omega) hzr ?_;intro p3 q3 w3 hr3 hb3 hz3 hg3;obtain ⟨s0',s1',s2',s3',s4',s5',sf'⟩:=six_of (HI.out.step hb3 (by omega)).out))
             obtain ⟨w4,hw4⟩ : ∃ w4,w3.setCell ⟨w.heap.size + 2,4,none⟩ (.slice p3 (KS.length + 1) q3) = w4:=⟨_,rfl⟩
             rw [hw4]
             have hI4 : TrI w w4 B (.slice p3 (KS.length + 1) q3) (.slice lp vs.length lc) #[.int .i64 K,.int .i64 o.n,.int .i64 o.g,.string ⟨o.s.toArray⟩,.slice (some ⟨b1,f1,none⟩) n2 c1,.slice (some ⟨b2,f2,none⟩) n2 c2]:=by rw [← hw4];exact ((HI.out.step hb3 (by omega)).keys)
             have hr4 : rownS encK 9 w4 B (.slice p3 (KS.length + 1) q3) (KS ++ [x]):=by rw [← hw4];exact row_set hr3 (by omega)
             have hro4 : rownS encOv 36 w4 B (.slice lp vs.length lc) vs:=by
               rw [← hw4]
               exact row_set (row_other (HR2.out.below ((Below.refl _ wr).alloc (Nat.le_refl _) (.cells (encK.cells x).toArray 9))) (World.ownsRow.alloc hr1 _) (by decide) hg3) (by omega)
             have hk4 : w4.heap[b2]? = wr.heap[b2]?:=by rw [← hw4,Below.heap_setCell w3 ⟨w.heap.size + 2,4,none⟩ _ b2 (by show b2 ≠ w.heap.size + 2;omega)];exact hb3.block b2 (by omega)
             have kk:=fun o => World.cell?_of_block (a:=⟨b2,o,none⟩) hk4
             have l0:=(kk _).trans r0
             have l1:=(kk _).trans r1
             have l2:=(kk _).trans r2
             have l3:=(kk _).trans r3
             have l4:=(kk _).trans r4
             have l5:=(kk _).trans r5
             clear kk hk4 hw4 hr3 hb3 hz3 hg3 s0' s1' s2' s3' s4' s5' sf' HI r0 r1 r2 r3 r4 r5 x0 x1 x2 x3 x4 x5 xf z0 z1 z2 z3 z4 z5 zf t0 t1 t2 t3 t4 t5 tf hr1 hr2 HR2 hzr
             obtain ⟨i0,hi0,y0',y1',y2'⟩:=info_parts Tryz.infoOs
             obtain ⟨N,hN⟩ : ∃ N,vs.length = N:=⟨_,rfl⟩
             rw [hN] at hI4 hro4 hvl2
             have hrow2 : w4.drew.ownsRow B 36 6 (.slice lp N lc) N (encOv.row vs):=by have h:=hro4;unfold rownS at h;rw [hN] at h;exact h
             obtain ⟨x0,x1,x2,x3,x4,x5,xf⟩:=six_of hI4.box
             obtain ⟨t0,t1,t2,t3,t4,t5,tf⟩:=six_of hI4.out
             have hzr:=hI4.size
             have hm1 : N + 1 ≤ maxLen:=by unfold maxLen;omega
             have hm2 : (N + 1) * 88 ≤ 140737488355328:=by omega
             have hkeep:=own_base hrow2
             have lt0 : w.heap.size < w4.heap.size:=by omega
             have lt2 : w.heap.size + 2 < w4.heap.size:=by omega
             have ltb : b2 < w4.heap.size:=by omega
             have ne0 : ¬ w.heap.size = w4.heap.size:=by omega
             have ne2 : ¬ w.heap.size + 2 = w4.heap.size:=by omega
             have neb : ¬ b2 = w4.heap.size:=by omega
             go_region_law (refine step_append_lies _ (by rfl) _ _ _ (by rfl) B 36 i0 (.agg #[.int .i64 0,.int .i64 0,.int .i64 0,.string ⟨#[]⟩,.slice none 0 0,.slice none 0 0]) 6 88 Tryz.underlying34 hi0 y0' y1' y2' rfl (by omega) (.slice lp N lc) N (encOv.row vs) (by rfl) (hrow2.alloc _) ⟨w4.heap.size,0,none⟩ 1 1 (objCells y.kind y.n y.g y.s (.slice y1 u1 v1) (.slice y2 u2 v2)) (by rfl) (by rfl) (World.news_of_block (cs:=#[.int .i64 y.kind,.int .i64 y.n,.int .i64 y.g,.string ⟨y.s.toArray⟩,.slice y1 u1 v1,.slice y2 u2 v2]) (t:=36) (fr:=(0,0)) (heap_alloc_new w4.drew _)) (objCells_one _ _ _ _ _ _ _) (by omega) hm1 hm2 (by simp;omega) (w4.heap.size + 1) (by simp) ?_;intro g2 cap w5 hown5 hgrow hat hlt5;have hX5 : w5.heap[w.heap.size + 2]? = some (.cells #[.int .i64 7,.int .i64 0,.int .i64 0,.string ⟨#[]⟩,.slice p3 (KS.length + 1) q3,.slice lp N lc] 36 (0,0)):=(hgrow.block _ (by first | (simp;done) | (simp;omega)) (fun e => by have:=hkeep _ e.symm;omega)).trans ((Below.heap_alloc _ _ _ (by show w.heap.size + 2 < w4.heap.size;omega)).trans hI4.out);obtain ⟨s0',s1',s2',s3',s4',s5',sf'⟩:=six_of hX5)
             all_goals
               have hR5 : rownS encOv 36 w5 B (.slice (some ⟨g2,0,none⟩) (N + 1) cap) (vs ++ [⟨y.kind,y.n,y.g,⟨y.s.toArray⟩,y1,u1,v1,y2,u2,v2⟩]):=by
                 unfold rownS
                 rw [List.length_append,hN,Enc.row_append]
                 exact hown5
               have hb5 : Below B w4 w5:=(((Below.refl B w4).drew).alloc hzr _).grown hgrow (by first | (simp;done) | (simp;omega)) (fun k hk => by have:=hkeep k hk;omega)
               have hI5:=(hI4.step hb5 (by omega)).kids (v:=.slice (some ⟨g2,0,none⟩) (N + 1) cap)
               have hK5:=row_set (o:=5) (u:=.slice (some ⟨g2,0,none⟩) (N + 1) cap) (row_other (hr4.below (((Below.refl w4.heap.size w4).drew).alloc (Nat.le_refl _) (.cells #[.int .i64 y.kind,.int .i64 y.n,.int .i64 y.g,.string ⟨y.s.toArray⟩,.slice y1 u1 v1,.slice y2 u2 v2] 36))) (hrow2.alloc _) (by decide) hgrow) (show w.heap.size + 2 < B by omega)
               have hR6:=row_set (o:=5) (u:=.slice (some ⟨g2,0,none⟩) (N + 1) cap) hR5 (show w.heap.size + 2 < B by omega)
               have HV6:=HV.out.push (v:=⟨y.kind,y.n,y.g,⟨y.s.toArray⟩,y1,u1,v1,y2,u2,v2⟩) (o:=y) (HO1.out.kept (w':=w) (fun b h => (hIB.out.block b (HK.out.2.2.1 b h)).symm) d)
               have HX:=Lh (And.intro hI5 (And.intro hK5 (And.intro hR6 HV6)))
               clear hgrow hat hown5 hkeep hR5 hb5 hI5 hK5 hR6 HV6 hX5 s0' s1' s2' s3' s4' s5' sf' hI4 hr4 hro4 hrow2
               go_wp2
               go_roundw
             all_goals first
               | (case rel =>
                   refine ⟨k + 1,vs ++ [⟨y.kind,y.n,y.g,⟨y.s.toArray⟩,y1,u1,v1,y2,u2,v2⟩],.slice p3 (KS.length + 1) q3,.slice (some ⟨g2,0,none⟩) (N + 1) cap,by omega,by go_num,HX.out.1,?_,HX.out.2.2.1,Lh ?_⟩
                   · rw [HSU.out]
                     simp only [if_true,List.map_append,List.map_cons,List.map_nil]
                     rw [HKS.out.2]
                     exact HX.out.2.1
                   · rw [HSU.out]
                     simp only [if_true,List.map_append,List.map_cons,List.map_nil]
                     exact HX.out.2.2.2)
               | (case measure => simp [intOf];omega)
         · have hxe : keepT x = true:=by unfold keepT wID wInfo wRoot;rw [e2];simp
           rw [hxe] at hsu
           have HSU:=Lh hsu
           have HKS:=Lh (And.intro hPK hKS)
           have HO1:=Lh O1
           have hIB:=Lh hI.below
           have HR2:=Lh hr2
           have hb2lt : b2 < w.heap.size:=HK.out.2.2.1 b2 s2
           have hvl2 : vs.length ≤ 8192:=by omega
           clear hKw hRw hy hym hx hxk hyk hsu hkl hkd hPK hKS O1
           have HI:=Lh hI
           clear hI
           go_wp2_with (at_builtin;(refine rappend (E:=encK) rfl _ _ rfl Tryz.underlying33 Tryz.infoKs rfl (by decide) (by decide) B _ KS x hr1 rfl rfl (by omega) hzr ?_;intro p3 q3 w3 hr3 hb3 hz3 hg3;obtain ⟨s0',s1',s2',s3',s4',s5',sf'⟩:=six_of (HI.out.step hb3 (by omega)).out))
           obtain ⟨w4,hw4⟩ : ∃ w4,w3.setCell ⟨w.heap.size + 2,4,none⟩ (.slice p3 (KS.length + 1) q3) = w4:=⟨_,rfl⟩
           rw [hw4]
           have hI4 : TrI w w4 B (.slice p3 (KS.length + 1) q3) (.slice lp vs.length lc) #[.int .i64 K,.int .i64 o.n,.int .i64 o.g,.string ⟨o.s.toArray⟩,.slice (some ⟨b1,f1,none⟩) n2 c1,.slice (some ⟨b2,f2,none⟩) n2 c2]:=by rw [← hw4];exact ((HI.out.step hb3 (by omega)).keys)
           have hr4 : rownS encK 9 w4 B (.slice p3 (KS.length + 1) q3) (KS ++ [x]):=by rw [← hw4];exact row_set hr3 (by omega)
           have hro4 : rownS encOv 36 w4 B (.slice lp vs.length lc) vs:=by
             rw [← hw4]
             exact row_set (row_other (HR2.out.below ((Below.refl _ wr).alloc (Nat.le_refl _) (.cells (encK.cells x).toArray 9))) (World.ownsRow.alloc hr1 _) (by decide) hg3) (by omega)
           have hk4 : w4.heap[b2]? = wr.heap[b2]?:=by rw [← hw4,Below.heap_setCell w3 ⟨w.heap.size + 2,4,none⟩ _ b2 (by show b2 ≠ w.heap.size + 2;omega)];exact hb3.block b2 (by omega)
           have kk:=fun o => World.cell?_of_block (a:=⟨b2,o,none⟩) hk4
           have l0:=(kk _).trans r0
           have l1:=(kk _).trans r1
           have l2:=(kk _).trans r2
           have l3:=(kk _).trans r3
           have l4:=(kk _).trans r4
           have l5:=(kk _).trans r5
           clear kk hk4 hw4 hr3 hb3 hz3 hg3 s0' s1' s2' s3' s4' s5' sf' HI r0 r1 r2 r3 r4 r5 x0 x1 x2 x3 x4 x5 xf z0 z1 z2 z3 z4 z5 zf t0 t1 t2 t3 t4 t5 tf hr1 hr2 HR2 hzr
           obtain ⟨i0,hi0,y0',y1',y2'⟩:=info_parts Tryz.infoOs
           obtain ⟨N,hN⟩ : ∃ N,vs.length = N:=⟨_,rfl⟩
           rw [hN] at hI4 hro4 hvl2
           have hrow2 : w4.drew.ownsRow B 36 6 (.slice lp N lc) N (encOv.row vs):=by have h:=hro4;unfold rownS at h;rw [hN] at h;exact h
           obtain ⟨x0,x1,x2,x3,x4,x5,xf⟩:=six_of hI4.box
           obtain ⟨t0,t1,t2,t3,t4,t5,tf⟩:=six_of hI4.out
           have hzr:=hI4.size
           have hm1 : N + 1 ≤ maxLen:=by unfold maxLen;omega
           have hm2 : (N + 1) * 88 ≤ 140737488355328:=by omega
           have hkeep:=own_base hrow2
           have lt0 : w.heap.size < w4.heap.size:=by omega
           have lt2 : w.heap.size + 2 < w4.heap.size:=by omega
           have ltb : b2 < w4.heap.size:=by omega
           have ne0 : ¬ w.heap.size = w4.heap.size:=by omega
           have ne2 : ¬ w.heap.size + 2 = w4.heap.size:=by omega
           have neb : ¬ b2 = w4.heap.size:=by omega
           go_region_law (refine step_append_lies _ (by rfl) _ _ _ (by rfl) B 36 i0 (.agg #[.int .i64 0,.int .i64 0,.int .i64 0,.string ⟨#[]⟩,.slice none 0 0,.slice none 0 0]) 6 88 Tryz.underlying34 hi0 y0' y1' y2' rfl (by omega) (.slice lp N lc) N (encOv.row vs) (by rfl) (hrow2.alloc _) ⟨w4.heap.size,0,none⟩ 1 1 (objCells y.kind y.n y.g y.s (.slice y1 u1 v1) (.slice y2 u2 v2)) (by rfl) (by rfl) (World.news_of_block (cs:=#[.int .i64 y.kind,.int .i64 y.n,.int .i64 y.g,.string ⟨y.s.toArray⟩,.slice y1 u1 v1,.slice y2 u2 v2]) (t:=36) (fr:=(0,0)) (heap_alloc_new w4.drew _)) (objCells_one _ _ _ _ _ _ _) (by omega) hm1 hm2 (by simp;omega) (w4.heap.size + 1) (by simp) ?_;intro g2 cap w5 hown5 hgrow hat hlt5;have hX5 : w5.heap[w.heap.size + 2]? = some (.cells #[.int .i64 7,.int .i64 0,.int .i64 0,.string ⟨#[]⟩,.slice p3 (KS.length + 1) q3,.slice lp N lc] 36 (0,0)):=(hgrow.block _ (by first | (simp;done) | (simp;omega)) (fun e => by have:=hkeep _ e.symm;omega)).trans ((Below.heap_alloc _ _ _ (by show w.heap.size + 2 < w4.heap.size;omega)).trans hI4.out);obtain ⟨s0',s1',s2',s3',s4',s5',sf'⟩:=six_of hX5)
           all_goals
             have hR5 : rownS encOv 36 w5 B (.slice (some ⟨g2,0,none⟩) (N + 1) cap) (vs ++ [⟨y.kind,y.n,y.g,⟨y.s.toArray⟩,y1,u1,v1,y2,u2,v2⟩]):=by
               unfold rownS
               rw [List.length_append,hN,Enc.row_append]
               exact hown5
             have hb5 : Below B w4 w5:=(((Below.refl B w4).drew).alloc hzr _).grown hgrow (by first | (simp;done) | (simp;omega)) (fun k hk => by have:=hkeep k hk;omega)
             have hI5:=(hI4.step hb5 (by omega)).kids (v:=.slice (some ⟨g2,0,none⟩) (N + 1) cap)
             have hK5:=row_set (o:=5) (u:=.slice (some ⟨g2,0,none⟩) (N + 1) cap) (row_other (hr4.below (((Below.refl w4.heap.size w4).drew).alloc (Nat.le_refl _) (.cells #[.int .i64 y.kind,.int .i64 y.n,.int .i64 y.g,.string ⟨y.s.toArray⟩,.slice y1 u1 v1,.slice y2 u2 v2] 36))) (hrow2.alloc _) (by decide) hgrow) (show w.heap.size + 2 < B by omega)
             have hR6:=row_set (o:=5) (u:=.slice (some ⟨g2,0,none⟩) (N + 1) cap) hR5 (show w.heap.size + 2 < B by omega)
             have HV6:=HV.out.push (v:=⟨y.kind,y.n,y.g,⟨y.s.toArray⟩,y1,u1,v1,y2,u2,v2⟩) (o:=y) (HO1.out.kept (w':=w) (fun b h => (hIB.out.block b (HK.out.2.2.1 b h)).symm) d)
             have HX:=Lh (And.intro hI5 (And.intro hK5 (And.intro hR6 HV6)))
             clear hgrow hat hown5 hkeep hR5 hb5 hI5 hK5 hR6 HV6 hX5 s0' s1' s2' s3' s4' s5' sf' hI4 hr4 hro4 hrow2
             go_wp2
             go_roundw
           all_goals first
             | (case rel =>
                 refine ⟨k + 1,vs ++ [⟨y.kind,y.n,y.g,⟨y.s.toArray⟩,y1,u1,v1,y2,u2,v2⟩],.slice p3 (KS.length + 1) q3,.slice (some ⟨g2,0,none⟩) (N + 1) cap,by omega,by go_num,HX.out.1,?_,HX.out.2.2.1,Lh ?_⟩
                 · rw [HSU.out]
                   simp only [if_true,List.map_append,List.map_cons,List.map_nil]
                   rw [HKS.out.2]
                   exact HX.out.2.1
                 · rw [HSU.out]
                   simp only [if_true,List.map_append,List.map_cons,List.map_nil]
                   exact HX.out.2.2.2)
             | (case measure => simp [intOf];omega)
       · have hxe : keepT x = true:=by unfold keepT wID wInfo wRoot;rw [e1];simp
         rw [hxe] at hsu
         have HSU:=Lh hsu
         have HKS:=Lh (And.intro hPK hKS)
         have HO1:=Lh O1
         have hIB:=Lh hI.below
         have HR2:=Lh hr2
         have hb2lt : b2 < w.heap.size:=HK.out.2.2.1 b2 s2
         have hvl2 : vs.length ≤ 8192:=by omega
         clear hKw hRw hy hym hx hxk hyk hsu hkl hkd hPK hKS O1
         have HI:=Lh hI
         clear hI
         go_wp2_with (at_builtin;(refine rappend (E:=encK) rfl _ _ rfl Tryz.underlying33 Tryz.infoKs rfl (by decide) (by decide) B _ KS x hr1 rfl rfl (by omega) hzr ?_;intro p3 q3 w3 hr3 hb3 hz3 hg3;obtain ⟨s0',s1',s2',s3',s4',s5',sf'⟩:=six_of (HI.out.step hb3 (by omega)).out))
         obtain ⟨w4,hw4⟩ : ∃ w4,w3.setCell ⟨w.heap.size + 2,4,none⟩ (.slice p3 (KS.length + 1) q3) = w4:=⟨_,rfl⟩
         rw [hw4]
         have hI4 : TrI w w4 B (.slice p3 (KS.length + 1) q3) (.slice lp vs.length lc) #[.int .i64 K,.int .i64 o.n,.int .i64 o.g,.string ⟨o.s.toArray⟩,.slice (some ⟨b1,f1,none⟩) n2 c1,.slice (some ⟨b2,f2,none⟩) n2 c2]:=by rw [← hw4];exact ((HI.out.step hb3 (by omega)).keys)
         have hr4 : rownS encK 9 w4 B (.slice p3 (KS.length + 1) q3) (KS ++ [x]):=by rw [← hw4];exact row_set hr3 (by omega)
         have hro4 : rownS encOv 36 w4 B (.slice lp vs.length lc) vs:=by
           rw [← hw4]
           exact row_set (row_other (HR2.out.below ((Below.refl _ wr).alloc (Nat.le_refl _) (.cells (encK.cells x).toArray 9))) (World.ownsRow.alloc hr1 _) (by decide) hg3) (by omega)
         have hk4 : w4.heap[b2]? = wr.heap[b2]?:=by rw [← hw4,Below.heap_setCell w3 ⟨w.heap.size + 2,4,none⟩ _ b2 (by show b2 ≠ w.heap.size + 2;omega)];exact hb3.block b2 (by omega)
         have kk:=fun o => World.cell?_of_block (a:=⟨b2,o,none⟩) hk4
         have l0:=(kk _).trans r0
         have l1:=(kk _).trans r1
         have l2:=(kk _).trans r2
         have l3:=(kk _).trans r3
         have l4:=(kk _).trans r4
         have l5:=(kk _).trans r5
         clear kk hk4 hw4 hr3 hb3 hz3 hg3 s0' s1' s2' s3' s4' s5' sf' HI r0 r1 r2 r3 r4 r5 x0 x1 x2 x3 x4 x5 xf z0 z1 z2 z3 z4 z5 zf t0 t1 t2 t3 t4 t5 tf hr1 hr2 HR2 hzr
         obtain ⟨i0,hi0,y0',y1',y2'⟩:=info_parts Tryz.infoOs
         obtain ⟨N,hN⟩ : ∃ N,vs.length = N:=⟨_,rfl⟩
         rw [hN] at hI4 hro4 hvl2
         have hrow2 : w4.drew.ownsRow B 36 6 (.slice lp N lc) N (encOv.row vs):=by have h:=hro4;unfold rownS at h;rw [hN] at h;exact h
         obtain ⟨x0,x1,x2,x3,x4,x5,xf⟩:=six_of hI4.box
         obtain ⟨t0,t1,t2,t3,t4,t5,tf⟩:=six_of hI4.out
         have hzr:=hI4.size
         have hm1 : N + 1 ≤ maxLen:=by unfold maxLen;omega
         have hm2 : (N + 1) * 88 ≤ 140737488355328:=by omega
         have hkeep:=own_base hrow2
         have lt0 : w.heap.size < w4.heap.size:=by omega
         have lt2 : w.heap.size + 2 < w4.heap.size:=by omega
         have ltb : b2 < w4.heap.size:=by omega
         have ne0 : ¬ w.heap.size = w4.heap.size:=by omega
         have ne2 : ¬ w.heap.size + 2 = w4.heap.size:=by omega
         have neb : ¬ b2 = w4.heap.size:=by omega
         go_region_law (refine step_append_lies _ (by rfl) _ _ _ (by rfl) B 36 i0 (.agg #[.int .i64 0,.int .i64 0,.int .i64 0,.string ⟨#[]⟩,.slice none 0 0,.slice none 0 0]) 6 88 Tryz.underlying34 hi0 y0' y1' y2' rfl (by omega) (.slice lp N lc) N (encOv.row vs) (by rfl) (hrow2.alloc _) ⟨w4.heap.size,0,none⟩ 1 1 (objCells y.kind y.n y.g y.s (.slice y1 u1 v1) (.slice y2 u2 v2)) (by rfl) (by rfl) (World.news_of_block (cs:=#[.int .i64 y.kind,.int .i64 y.n,.int .i64 y.g,.string ⟨y.s.toArray⟩,.slice y1 u1 v1,.slice y2 u2 v2]) (t:=36) (fr:=(0,0)) (heap_alloc_new w4.drew _)) (objCells_one _ _ _ _ _ _ _) (by omega) hm1 hm2 (by simp;omega) (w4.heap.size + 1) (by simp) ?_;intro g2 cap w5 hown5 hgrow hat hlt5;have hX5 : w5.heap[w.heap.size + 2]? = some (.cells #[.int .i64 7,.int .i64 0,.int .i64 0,.string ⟨#[]⟩,.slice p3 (KS.length + 1) q3,.slice lp N lc] 36 (0,0)):=(hgrow.block _ (by first | (simp;done) | (simp;omega)) (fun e => by have:=hkeep _ e.symm;omega)).trans ((Below.heap_alloc _ _ _ (by show w.heap.size + 2 < w4.heap.size;omega)).trans hI4.out);obtain ⟨s0',s1',s2',s3',s4',s5',sf'⟩:=six_of hX5)
         all_goals
           have hR5 : rownS encOv 36 w5 B (.slice (some ⟨g2,0,none⟩) (N + 1) cap) (vs ++ [⟨y.kind,y.n,y.g,⟨y.s.toArray⟩,y1,u1,v1,y2,u2,v2⟩]):=by
             unfold rownS
             rw [List.length_append,hN,Enc.row_append]
             exact hown5
           have hb5 : Below B w4 w5:=(((Below.refl B w4).drew).alloc hzr _).grown hgrow (by first | (simp;done) | (simp;omega)) (fun k hk => by have:=hkeep k hk;omega)
           have hI5:=(hI4.step hb5 (by omega)).kids (v:=.slice (some ⟨g2,0,none⟩) (N + 1) cap)
           have hK5:=row_set (o:=5) (u:=.slice (some ⟨g2,0,none⟩) (N + 1) cap) (row_other (hr4.below (((Below.refl w4.heap.size w4).drew).alloc (Nat.le_refl _) (.cells #[.int .i64 y.kind,.int .i64 y.n,.int .i64 y.g,.string ⟨y.s.toArray⟩,.slice y1 u1 v1,.slice y2 u2 v2] 36))) (hrow2.alloc _) (by decide) hgrow) (show w.heap.size + 2 < B by omega)
           have hR6:=row_set (o:=5) (u:=.slice (some ⟨g2,0,none⟩) (N + 1) cap) hR5 (show w.heap.size + 2 < B by omega)
           have HV6:=HV.out.push (v:=⟨y.kind,y.n,y.g,⟨y.s.toArray⟩,y1,u1,v1,y2,u2,v2⟩) (o:=y) (HO1.out.kept (w':=w) (fun b h => (hIB.out.block b (HK.out.2.2.1 b h)).symm) d)
           have HX:=Lh (And.intro hI5 (And.intro hK5 (And.intro hR6 HV6)))
           clear hgrow hat hown5 hkeep hR5 hb5 hI5 hK5 hR6 HV6 hX5 s0' s1' s2' s3' s4' s5' sf' hI4 hr4 hro4 hrow2
           go_wp2
           go_roundw
         all_goals first
           | (case rel =>
               refine ⟨k + 1,vs ++ [⟨y.kind,y.n,y.g,⟨y.s.toArray⟩,y1,u1,v1,y2,u2,v2⟩],.slice p3 (KS.length + 1) q3,.slice (some ⟨g2,0,none⟩) (N + 1) cap,by omega,by go_num,HX.out.1,?_,HX.out.2.2.1,Lh ?_⟩
               · rw [HSU.out]
                 simp only [if_true,List.map_append,List.map_cons,List.map_nil]
                 rw [HKS.out.2]
                 exact HX.out.2.1
               · rw [HSU.out]
                 simp only [if_true,List.map_append,List.map_cons,List.map_nil]
                 exact HX.out.2.2.2)
           | (case measure => simp [intOf];omega)
     · have hkn : k = n2:=by omega
       subst hkn
       have hO2:=obj_rows (K:=7) (N:=0) (G:=0) (s:=[]) hr1 hr2 (HV.out.kept (fun b h => hI.below.block b (HK.out.2.2.1 b h)))
       have HO2:=Lh hO2
       have HKS:=Lh (And.intro hPK hKS)
       obtain ⟨e1,he1⟩ : ∃ e1,KS.length = e1:=⟨_,rfl⟩
       obtain ⟨e2,he2⟩ : ∃ e2,vs.length = e2:=⟨_,rfl⟩
       rw [he1] at HO2 hI t4
       rw [he2] at HO2 hI t5
       have HI:=Lh hI
       clear hr1 hr2 hO2 he1 he2 hI hPK hKS
       go_wp2
       refine bodyPost_ret (v:=.agg #[.int .i64 7,.int .i64 0,.int .i64 0,.string ⟨#[]⟩,.slice kp e1 kc,.slice lp e2 lc]) (by simp [results,Tryz.results27,go_sem,z0,z1,z2,z3,z4,z5,zf]) rfl ⟨kp,e1,kc,lp,e2,lc,rfl,?_,?_⟩
       · rw [HKS.out.1,HKS.out.2]
         refine ((HO2.out.kept (w':=_) ?_ (d + 1)).weaken (fun b h _ => h.elim (fun h => .inl (by omega)) .inr) (d + 1))
         intro b hb
         have hb2 : b ≠ w.heap.size + 1:=by
           rcases hb with hb | hb
           · omega
           · have:=HK.out.2.2.1 b hb;omega
         iterate 6 (refine (Below.heap_setCell _ _ _ _ hb2).trans ?_)
         rfl
       · exact ((((((HI.out.below.setCell (p:=⟨w.heap.size + 1,0,none⟩) (Nat.le_succ _) _).setCell (p:=⟨w.heap.size + 1,1,none⟩) (Nat.le_succ _) _).setCell (p:=⟨w.heap.size + 1,2,none⟩) (Nat.le_succ _) _).setCell (p:=⟨w.heap.size + 1,3,none⟩) (Nat.le_succ _) _).setCell (p:=⟨w.heap.size + 1,4,none⟩) (Nat.le_succ _) _).setCell (p:=⟨w.heap.size + 1,5,none⟩) (Nat.le_succ _) _)
end Go.Proofs.YtinafodpgjbedaaGreatDoor
