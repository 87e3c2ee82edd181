/- Parts of the proof: WlE. -/
import Derived.Test.YtfgdhcemidlnfaaGreatDoorPpl
import Derived.Test.YtfgdhcemidlnfaaGreatDoorPpn
import Derived.Test.YtfgdhcemidlnfaaGreatDoorPpq
import Derived.Test.YtfgdhcemidlnfaaGreatDoorPpr
set_option linter.all false
set_option maxRecDepth 100000
set_option maxHeartbeats 8000000
namespace Go.Proofs.YtfgdhcemidlnfaaGreatDoor
open Go.RowKit Fo
theorem objUpN {S : Nat → Prop} {w : World} {d : Nat} {cs : List Value} {o : Ob} (h : ObjAt S d w cs o) : ∀ k,ObjAt S (d + k) w cs o
 | 0 => h
 | k + 1 => (objUpN h k).up (d + k)
theorem smallUpN {d : Nat} {o : Ob} (h : smallO d o) : ∀ k,smallO (d + k) o
 | 0 => h
 | k + 1 => r8succ (d + k) o (smallUpN h k)
theorem file_bad {D : Dc} (hf : DocFit D) {k : Int} (h : fileW D = .bad k) : k ≠ 0:=by
 unfold fileW at h
 by_cases h1 : docB D ≠ 0
 · rw [if_pos h1] at h
   cases h
   exact h1
 · rw [if_neg h1] at h
   obtain ⟨r,ps,hM⟩:=made_ok (by omega) hf
   rw [hM.parts] at h
   dsimp only at h
   by_cases h2 : 1048576 < (r ++ (tableW (slotsW ps (mostW D.items)) (sizeT D) ++ tailW r.length)).length
   · rw [if_pos h2] at h
     cases h
     decide
   · rw [if_neg h2] at h
     cases h
theorem item_at {S : Nat → Prop} {d : Nat} {w : World} {b off n c : Nat} {l : List It} (h : ItemsAt S d w (.slice (some ⟨b, off, none⟩) n c) l) (k : Nat) (hk : k < l.length) :
   ∃ q1 m1 e1 q2 m2 e2,S b ∧ w.cell? ⟨b,off + k * 8,none⟩ = some (.int .i64 l[k].num) ∧ w.cell? ⟨b,off + k * 8 + 1,none⟩ = some (.int .i64 l[k].gen) ∧ w.cell? ⟨b,off + k * 8 + 2,none⟩ = some (.int .i64 l[k].ob.kind) ∧ w.cell? ⟨b,off + k * 8 + 3,none⟩ = some (.int .i64 l[k].ob.n) ∧
     w.cell? ⟨b,off + k * 8 + 4,none⟩ = some (.int .i64 l[k].ob.g) ∧ w.cell? ⟨b,off + k * 8 + 5,none⟩ = some (.string ⟨l[k].ob.s.toArray⟩) ∧ w.cell? ⟨b,off + k * 8 + 6,none⟩ = some (.slice q1 m1 e1) ∧ w.cell? ⟨b,off + k * 8 + 7,none⟩ = some (.slice q2 m2 e2) ∧
     ObjAt S d w (objCells l[k].ob.kind l[k].ob.n l[k].ob.g l[k].ob.s (.slice q1 m1 e1) (.slice q2 m2 e2)) l[k].ob:=by
 rcases h with ⟨rfl,_⟩ | ⟨b',off',c',e,hS,h3⟩
 · exact absurd hk (Nat.not_lt_zero _)
 · cases e
   obtain ⟨v0,v1,v2,v3,v4,v5,a0,a1,a2,a3,a4,a5,a6,a7,a8⟩:=h3 k hk
   obtain ⟨q1,m1,e1,q2,m2,e2,e⟩:=a8.shape
   have e':=e
   unfold objCells at e
   simp only [List.cons.injEq,and_true] at e
   obtain ⟨rfl,rfl,rfl,rfl,rfl,rfl⟩:=e
   exact ⟨q1,m1,e1,q2,m2,e2,hS,a0,a1,a2,a3,a4,a5,a6,a7,a8⟩
structure FileRd (D : Dc) (f : ByteArray) (l : List Sl) (w0 : World) (n at' : Nat) : Prop where
 start : ∀ W,Calls Tryz.prog 13 #[.string f] W fun e w' => e = .returned (.tuple #[.int .i64 n,.int .i64 0]) ∧ Below W.heap.size W w'
 read : ∀ W, Calls Tryz.prog 14 #[.string f, .int .i64 n] W fun e w' => ∃ p c p1 c1 p2 n2 c2 q, e = .returned (.tuple #[.agg #[.int .i64 n, .slice p l.length c, .int .i64 (sizeT D).kind, .int .i64 (sizeT D).n, .int .i64 (sizeT D).g, .string ⟨(sizeT D).s.toArray⟩, .slice p1 (sizeT D).keys.length c1, .slice p2 n2 c2, .int .i64 (-1), .int .i64 (-1), .int .i64 0], .int .i64 q, .int .i64 0]) ∧
     RArg slE w' (.slice p l.length c) l ∧ ObjAt (fun b => W.heap.size ≤ b) 25 w' (objCells (sizeT D).kind (sizeT D).n (sizeT D).g (sizeT D).s (.slice p1 (sizeT D).keys.length c1) (.slice p2 n2 c2)) (sizeT D) ∧ Below W.heap.size W w'
theorem file_rd {D : Dc} {f : L} {l : List Sl} (h : fileW D = .good (f,l)) (w0 : World) : ∃ n at',FileRd D ⟨f.toArray⟩ l w0 n at':=by
 obtain ⟨hf,at',n,t,h1,h9,h2,hk,hn,hlt,r,l1,l2,l3,l4,l5,hT⟩:=file_table h
 obtain ⟨ps,hl,hm,hP⟩:=ps_ok h
 have hTr:=tr_ok h
 have hln : l.length ≤ 8192:=by rw [hl,slotsW_len];omega
 have hfd : (⟨f.toArray⟩ : ByteArray).data.toList = f:=rfl
 have hfs : (⟨f.toArray⟩ : ByteArray).size = f.length:=rfl
 refine ⟨n,at',fun W => ?_,fun W => ?_⟩
 · exact rstart ⟨f.toArray⟩ (by rw [hfs];omega) at' n t h1 (by rw [hfs];exact h9) h2 hk hn (by rw [hfs];exact hlt) W
 · exact k18read ⟨f.toArray⟩ (by rw [hfs];omega) n (by rw [hfs];omega) l (sizeT D) r l1 l2 l3 l4 l5 hT hln hTr.kind (by have:=hTr.few;omega) (fun x hx => by have:=hTr.short x hx;omega) hTr.prev hTr.hyb W
theorem tr_back {D : Dc} (hTr : TrOk D) : (Ob.mk 7 0 0 [] ((pickK keepT (sizeT D) (sizeT D).keys.length).map (·.1)) ((pickK keepT (sizeT D) (sizeT D).keys.length).map (·.2))) = D.trail:=by
 have h:=hTr.back
 unfold Fo.trailR at h
 rw [if_pos (by simp [dictB,hTr.kind,hTr.chk])] at h
 unfold pickK
 rw [List.take_of_length_le (by simp;omega)]
 exact h
theorem wplaces_in (S : Nat → Prop) (d : Nat) (D : Dc) (iv : Value) (tc : List Value) (w : World) (hI : ItemsAt S (d + 1) w iv D.items) (hO : ObjAt S (d + 1) w tc D.trail) (hS : ∀ b, S b → b < w.heap.size) (hbk : ∀ e, bulkD e D ≤ 1048576)
   (hl : D.items.length ≤ 1000000) (hsI : ∀ i ∈ D.items,smallO (d + 1) i.ob) (hsT : smallO (d + 1) D.trail) (hT : TabP w) :
   Calls Tryz.prog 4 #[.agg (iv :: tc).toArray] w fun e w' => e = .returned (.bool true) ∧ Below w.heap.size w w':=by
 have HTW:=Lh hT
 obtain ⟨p1,n1,c1,p2,n2,c2,rfl⟩:=hO.shape
 obtain ⟨ip,ic,rfl⟩:=hI.slice
 obtain ⟨n,hn⟩ : ∃ n,D.items.length = n:=⟨_,rfl⟩
 rw [hn] at hI hl ⊢
 have keptI:=fun (W : World) (hW : Below w.heap.size w W) => hI.kept (fun b h => hW.block b (hS b h))
 have keptO:=fun (W : World) (hW : Below w.heap.size w W) => hO.kept (fun b h => hW.block b (hS b h)) (d + 1)
 have hS2:=fun (W : World) (hW : Below w.heap.size w W) b (h : S b) => Nat.lt_of_lt_of_le (hS b h) hW.size
 have HSZ:=Lh (fun (W : World) (hW : Below w.heap.size w W) => sizeD_in S (d + 1) W D ip p1 p2 n ic n1 c1 n2 c2 (keptI W hW) hn hl hsI (keptO W hW) hsT (hS2 W hW) (hbk _))
 have HLV:=Lh (fun (W : World) (hW : Below w.heap.size w W) => lives_in W (hT.below hW))
 have hsz : sizeD (d + 1) D ≤ 1048576:=by
   have h1:=size_bulk (d + 1) D.trail
   have h2:=map_sum_le (l:=D.items) (f:=fun i => sizeO (d + 1) i.ob) (g:=fun i => bulkO (d + 1) i.ob) (fun i _ => size_bulk (d + 1) i.ob)
   have:=hbk (d + 1)
   unfold bulkD at this
   unfold sizeD
   omega
 have HFI:=Lh (fun (hs : sizeD (d + 1) D ≤ 600) (W : World) (hW : Below w.heap.size w W) => file_in S d W _ D ⟨_,_,rfl,keptI W hW,by omega,hsI,keptO W hW,hsT⟩ (hS2 W hW) (fit_small hI (by omega) (hbk 24) hs) (hT.below hW))
 have HPL:=Lh (fun (hs : sizeD (d + 1) D ≤ 600) (W : World) (hW : Below w.heap.size w W) => places_in S d W _ D ⟨_,_,rfl,keptI W hW,by omega,hsI,keptO W hW,hsT⟩ (hS2 W hW) (fit_small hI (by omega) (hbk 24) hs) (hT.below hW))
 have HFT:=Lh (fun (hs : sizeD (d + 1) D ≤ 600) => fit_small hI (by omega) (hbk 24) hs)
 have HDT:=Lh (And.intro hI (And.intro hO (And.intro hS (And.intro hn (And.intro hsI hsT)))))
 unfold objCells at HFI HPL ⊢
 obtain ⟨z,hz⟩ : ∃ z,sizeD (d + 1) D = z:=⟨_,rfl⟩
 rw [hz] at HSZ HFI HPL HFT hsz
 clear hT hI hO hS hbk hn hsI hsT keptI keptO hS2 hz
 by_cases h40 : 40 < n
 · have g40 : decide ((n : Int) > 40) = true:=by simp;omega
   go_enter Tryz.func4,Tryz.ntmps4
   go_wp2_with fail
   refine (HLV.out _ bel).mono ?_
   rintro e w1 ⟨rfl,hb1⟩
   go_wp2
   go_ret
   exact ⟨rfl,bel⟩
 have g40 : decide ((n : Int) > 40) = false:=by simp;omega
 by_cases h600 : 600 < z
 · have g600 : decide ((z : Int) > 600) = true:=by simp;omega
   go_enter Tryz.func4,Tryz.ntmps4
   go_wp2_with fail
   refine (HSZ.out _ bel).mono ?_
   rintro e w1 ⟨rfl,hb1⟩
   have hbw1 : Below w.heap.size w w1:=bel
   go_wp2_with fail
   refine (HLV.out _ hbw1).mono ?_
   rintro e w2 ⟨rfl,hb2⟩
   go_wp2
   go_ret
   exact ⟨rfl,hbw1.trans (hb2.mono hbw1.size)⟩
 have g600 : decide ((z : Int) > 600) = false:=by simp;omega
 have HFI2:=Lh (HFI.out (by omega))
 have HPL2:=Lh (HPL.out (by omega))
 clear HFI HPL
 cases hfw : fileW D with
 | bad k =>
   have e1 : fileS D = ⟨#[]⟩:=by unfold fileS;rw [hfw]
   have e2 : fileE D = k:=by unfold fileE;rw [hfw]
   have e3 : fileSl D = []:=by unfold fileSl;rw [hfw]
   rw [e1,e2] at HFI2
   rw [e3,e2] at HPL2
   have hk0 : k ≠ 0:=file_bad (HFT.out (by omega)) hfw
   have hk1 : (k != 0) = true:=by simpa using hk0
   have hk2 : (k == k) = true:=by simp
   clear e1 e2 e3 hfw
   go_enter Tryz.func4,Tryz.ntmps4
   go_wp2_with fail
   refine (HSZ.out _ bel).mono ?_
   rintro e w1 ⟨rfl,hb1⟩
   have hbw1 : Below w.heap.size w w1:=bel
   have A1:=(hb1.block _ (by simp)).trans (heap_new_at w (.cells #[.slice ip n ic,.int .i64 D.trail.kind,.int .i64 D.trail.n,.int .i64 D.trail.g,.string ⟨D.trail.s.toArray⟩,.slice p1 n1 c1,.slice p2 n2 c2] 28) _ rfl)
   obtain ⟨a0,a1,a2,a3,a4,a5,a6⟩:=seven_of A1
   go_wp2_with fail
   refine (HFI2.out _ hbw1).mono ?_
   rintro e w2 ⟨rfl,hb2⟩
   have hz1:=hb1.size
   simp at hz1
   have A2:=(hb2.block _ (by omega)).trans A1
   have hbw2:=hbw1.trans (hb2.mono hbw1.size)
   clear a0 a1 a2 a3 a4 a5 a6
   obtain ⟨a0,a1,a2,a3,a4,a5,a6⟩:=seven_of A2
   go_wp2_with fail
   refine (HPL2.out _ hbw2).mono ?_
   rintro e w3 ⟨⟨lp,lc,rfl,hA⟩,hb3⟩
   have hbw3:=hbw2.trans (hb3.mono hbw2.size)
   clear hA
   go_wp2_with fail
   refine (HLV.out _ hbw3).mono ?_
   rintro e w4 ⟨rfl,hb4⟩
   have hbw4:=hbw3.trans (hb4.mono hbw3.size)
   go_wp2
   go_ret
   exact ⟨rfl,hbw4⟩
 | good fl =>
   obtain ⟨f,l⟩:=fl
   have e1 : fileS D = ⟨f.toArray⟩:=by unfold fileS;rw [hfw]
   have e2 : fileE D = 0:=by unfold fileE;rw [hfw]
   have e3 : fileSl D = l:=by unfold fileSl;rw [hfw]
   rw [e1,e2] at HFI2
   rw [e3,e2] at HPL2
   clear e1 e2 e3
   obtain ⟨nf,at',HFR⟩:=file_rd hfw w
   have HST:=Lh HFR.start
   have HRD:=Lh HFR.read
   have hTr:=tr_ok hfw
   have hTB:=tr_back hTr
   obtain ⟨ps,hlp,hmost,hPs⟩:=ps_ok hfw
   have hln : l.length ≤ 8192:=by rw [hlp,slotsW_len];omega
   obtain ⟨T,hT⟩ : ∃ T,sizeT D = T:=⟨_,rfl⟩
   have hTk:=hTr.kind
   have hTc:=hTr.chk
   have hTl:=hTr.len
   have hTf:=hTr.few
   rw [hT] at HRD hTB hTk hTc hTl hTf
   have HPS:=Lh (And.intro hlp (And.intro hmost hPs))
   have HFL:=Lh (file_table hfw).1
   clear HFR hTr hT hlp hmost hPs hfw
   go_enter Tryz.func4,Tryz.ntmps4
   go_wp2_with fail
   refine (HSZ.out _ bel).mono ?_
   rintro e w1 ⟨rfl,hb1⟩
   have hbw1 : Below w.heap.size w w1:=bel
   have A1:=(hb1.block _ (by simp)).trans (heap_new_at w (.cells #[.slice ip n ic,.int .i64 D.trail.kind,.int .i64 D.trail.n,.int .i64 D.trail.g,.string ⟨D.trail.s.toArray⟩,.slice p1 n1 c1,.slice p2 n2 c2] 28) _ rfl)
   obtain ⟨a0,a1,a2,a3,a4,a5,a6⟩:=seven_of A1
   go_wp2_with fail
   refine (HFI2.out _ hbw1).mono ?_
   rintro e w2 ⟨rfl,hb2⟩
   have hz1:=hb1.size
   simp at hz1
   have A2:=(hb2.block _ (by omega)).trans A1
   have hbw2:=hbw1.trans (hb2.mono hbw1.size)
   clear a0 a1 a2 a3 a4 a5 a6 hb1
   obtain ⟨a0,a1,a2,a3,a4,a5,a6⟩:=seven_of A2
   go_wp2_with fail
   refine (HPL2.out _ hbw2).mono ?_
   rintro e w3 ⟨⟨lp,lc,rfl,hL3⟩,hb3⟩
   have hz2:=hb2.size
   have A3:=(hb3.block _ (by omega)).trans A2
   have hbw3:=hbw2.trans (hb3.mono hbw2.size)
   clear a0 a1 a2 a3 a4 a5 a6 A1 A2 hb2 hbw1
   obtain ⟨a0,a1,a2,a3,a4,a5,a6⟩:=seven_of A3
   go_wp2_with fail
   refine (HST.out _).mono ?_
   rintro e w4 ⟨rfl,hb4⟩
   have hz3:=hb3.size
   have A4:=(hb4.block _ (by omega)).trans A3
   have hbw4:=hbw3.trans (hb4.mono hbw3.size)
   have hL4:=hL3.below hb4
   clear hL3 A3 a0 a1 a2 a3 a4 a5 a6 hb3 hbw2
   go_wp2_with fail
   refine (HRD.out _).mono ?_
   rintro e w5 ⟨sp,sc,t1,k1,t2,m2,k2,q,rfl,hSL,hTO,hb5⟩
   have hz4:=hb4.size
   have A5:=(hb5.block _ (by omega)).trans A4
   have hbw5:=hbw4.trans (hb5.mono hbw4.size)
   have hL5:=hL4.below hb5
   have hz5:=hb5.size
   clear A4 hL4 hbw3 hb4 hb5
   obtain ⟨KL,hKL⟩ : ∃ KL,T.keys.length = KL:=⟨_,rfl⟩
   obtain rfl : m2 = KL:=by
     obtain ⟨_,_,_,_,e0⟩:=hTO.form2
     unfold objCells at e0
     simp only [List.cons.injEq,Value.slice.injEq,and_true,true_and] at e0
     rw [e0.2.2.1,← hTl,hKL]
   rw [hKL] at hTO hTf hTB ⊢
   have hTO5:=hTO.weaken (S':=fun b => b < w5.heap.size) (fun b _ h => h) 25
   have HTN:=Lh (And.intro hKL (show T.kids.length = m2 by rw [← hTl,hKL]))
   have HTT:=Lh (And.intro hTO5 (And.intro hTc hTB))
   have HLL:=Lh (And.intro hSL hL5)
   clear hTO hTO5 hTc hTB hTl hKL hSL hL5
   obtain ⟨N,hN⟩ : ∃ N,l.length = N:=⟨_,rfl⟩
   have HN:=Lh hN
   rw [hN] at hln HLL ⊢
   clear hN
   have TK:=Lh hTk
   generalize T.kind = K at hTk HTT ⊢
   subst hTk
   obtain ⟨C,hC⟩ : ∃ C,w5.heap.size = C:=⟨_,rfl⟩
   go_upto_region 9 with fail
   obtain ⟨w6,hw6⟩ : ∃ w6,w5.alloc (.cells #[.int .i64 nf,.slice sp N sc,.int .i64 7,.int .i64 T.n,.int .i64 T.g,.string ⟨T.s.toArray⟩,.slice t1 m2 k1,.slice t2 m2 k2,.int .i64 (-1),.int .i64 (-1),.int .i64 0] 42) = w6:=⟨_,rfl⟩
   rw [hw6]
   have hb56 : Below w5.heap.size w5 w6:=by rw [← hw6];exact belr
   have C6 : w6.heap[C]? = some (.cells #[.int .i64 nf,.slice sp N sc,.int .i64 7,.int .i64 T.n,.int .i64 T.g,.string ⟨T.s.toArray⟩,.slice t1 m2 k1,.slice t2 m2 k2,.int .i64 (-1),.int .i64 (-1),.int .i64 0] 42 (0,0)):=by rw [← hw6];exact heap_new_at _ _ _ hC.symm
   have hz6 : w6.heap.size = C + 1:=by rw [← hw6,← hC];simp
   have hbw6 : Below w.heap.size w w6:=hbw5.trans (hb56.mono hbw5.size)
   have A6:=(hb56.block _ (by omega)).trans A5
   clear hw6 A5 hbw5
   have HK1:=Lh (fun (W : World) (hW : Below w5.heap.size w5 W) => kslots (.slice sp N sc) (.slice lp N lc) l W (HLL.out.1.below hW) (HLL.out.2.below hW) (by rw [HN.out];omega))
   have HK2 := Lib.hid (fun (W : World) (hW : Below w5.heap.size w5 W) => (show Calls Tryz.prog 16 #[.agg #[.int .i64 7, .int .i64 T.n, .int .i64 T.g, .string ⟨T.s.toArray⟩, .slice t1 m2 k1, .slice t2 m2 k2]] W (fun e w' => ∃ q1 e1 m1 q2 e2 m2, e = .returned (.agg #[.int .i64 7, .int .i64 0, .int .i64 0, .string ⟨#[]⟩, .slice q1 e1 m1, .slice q2 e2 m2]) ∧
       ObjAt (fun b => b < w'.heap.size) 25 w' (objCells 7 0 0 [] (.slice q1 e1 m1) (.slice q2 e2 m2)) D.trail ∧ Below W.heap.size W w') from by
     have h:=rtrailer (fun b => b < W.heap.size) 24 W T t1 t2 k1 m2 k2 (by rw [TK.out];exact (HTT.out.1.kept (fun b h => hW.block b h) 25).weaken (fun b h _ => Nat.lt_of_lt_of_le h hW.size) 25) (fun b h => h) HTN.out.1 HTN.out.2 (by omega) TK.out (r8succ 24 _ (okO_small 24 _ (okO_of_check HTT.out.2.1 (by rw [TK.out];decide)))) HTT.out.2.1
     rw [TK.out,HTT.out.2.2] at h
     refine h.mono ?_
     rintro e w' ⟨q1,e1,m1,q2,e2,m2,rfl,h1,h2⟩
     exact ⟨q1,e1,m1,q2,e2,m2,rfl,h1.weaken (fun b _ h => h) 25,h2⟩))
   have HK3:=Lh (fun (W : World) (hW : Below w.heap.size w W) q1 e1 m1 q2 e2 m2 (h : ObjAt (fun b => b < W.heap.size) 25 W (objCells 7 0 0 [] (.slice q1 e1 m1) (.slice q2 e2 m2)) D.trail) => (show Calls Tryz.prog 15 #[.agg #[.int .i64 7,.int .i64 0,.int .i64 0,.string ⟨#[]⟩,.slice q1 e1 m1,.slice q2 e2 m2],.agg #[.int .i64 D.trail.kind,.int .i64 D.trail.n,.int .i64 D.trail.g,.string ⟨D.trail.s.toArray⟩,.slice p1 n1 c1,.slice p2 n2 c2]] W (fun e w' => e = .returned (.bool true) ∧ Below W.heap.size W w') from
     same_in (fun b => b < W.heap.size) (d + 1 + 25) W _ _ D.trail (by rw [Nat.add_comm];exact objUpN h (d + 1)) (objUpN ((HDT.out.2.1.kept (fun b h => hW.block b (HDT.out.2.2.1 b h)) (d + 1)).weaken (fun b h _ => Nat.lt_of_lt_of_le (HDT.out.2.2.1 b h) hW.size) (d + 1)) 25) (smallUpN HDT.out.2.2.2.2.2 25) (fun b h => h)))
   have HA6:=Lh A6
   have HC6:=Lh C6
   have HB:=Lh (And.intro hb56 hbw6)
   obtain ⟨a0,a1,a2,a3,a4,a5,a6⟩:=seven_of A6
   obtain ⟨s0,s1,s2,s3,s4,s5,s6,s7,s8,s9,s10,sf⟩:=eleven_of C6
   clear A6 C6 hb56 hbw6
   have hN1 : 0 < N:=by have h1:=HN.out;rw [HPS.out.1,slotsW_len] at h1;omega
   have eN : ((N : Int) == 0) = false:=by simp;omega
   have eN2 : ¬ N = 0:=by omega
   have HB5:=Lh (show Below w6.heap.size w6 w6.drew from (Below.refl _ _).drew)
   have hz56:=HB.out.1.size
   have hwz:=HB.out.2.size
   obtain ⟨a0,a1,a2,a3,a4,a5,a6⟩:=seven_of (show w6.drew.heap[w.heap.size]? = _ from HA6.out)
   obtain ⟨s0,s1,s2,s3,s4,s5,s6,s7,s8,s9,s10,sf⟩:=eleven_of (show w6.drew.heap[C]? = _ from HC6.out)
   go_region_held3 (fun w' => w'.cell? ⟨C,1,none⟩ = some (.slice sp N sc) ∧ w'.cell? ⟨C,2,none⟩ = some (.int .i64 7) ∧ w'.cell? ⟨C,3,none⟩ = some (.int .i64 T.n) ∧ w'.cell? ⟨C,4,none⟩ = some (.int .i64 T.g) ∧ w'.cell? ⟨C,5,none⟩ = some (.string ⟨T.s.toArray⟩) ∧ w'.cell? ⟨C,6,none⟩ = some (.slice t1 m2 k1) ∧ w'.cell? ⟨C,7,none⟩ = some (.slice t2 m2 k2) ∧ w'.cell? ⟨w.heap.size,1,none⟩ = some (.int .i64 D.trail.kind) ∧ w'.cell? ⟨w.heap.size,2,none⟩ = some (.int .i64 D.trail.n) ∧ w'.cell? ⟨w.heap.size,3,none⟩ = some (.int .i64 D.trail.g) ∧ w'.cell? ⟨w.heap.size,4,none⟩ = some (.string ⟨D.trail.s.toArray⟩) ∧ w'.cell? ⟨w.heap.size,5,none⟩ = some (.slice p1 n1 c1) ∧ w'.cell? ⟨w.heap.size,6,none⟩ = some (.slice p2 n2 c2)) (go_keep)
     (first
       | (go_at_call 12;(with_reducible refine (HK1.out _ (HB.out.1.trans (HB5.out.mono hz56))).mono ?_);rintro e w7 ⟨rfl,hb⟩;replace HB5:=Lh (HB5.out.trans (hb.mono HB5.out.size));obtain ⟨a0,a1,a2,a3,a4,a5,a6⟩:=seven_of ((HB5.out.block _ (by omega)).trans HA6.out);obtain ⟨s0,s1,s2,s3,s4,s5,s6,s7,s8,s9,s10,sf⟩:=eleven_of ((HB5.out.block _ (by omega)).trans HC6.out);clear hb)
       | (go_at_call 16;(with_reducible refine (HK2.out _ (HB.out.1.trans (HB5.out.mono hz56))).mono ?_);rintro e w8 ⟨q1,e1,m1,q2,e2,m3,rfl,hD8,hb⟩;have HD8:=Lh hD8;replace HB5:=Lh (HB5.out.trans (hb.mono HB5.out.size));obtain ⟨a0,a1,a2,a3,a4,a5,a6⟩:=seven_of ((HB5.out.block _ (by omega)).trans HA6.out);obtain ⟨s0,s1,s2,s3,s4,s5,s6,s7,s8,s9,s10,sf⟩:=eleven_of ((HB5.out.block _ (by omega)).trans HC6.out);clear hb hD8)
       | (go_at_call 15;(with_reducible refine (HK3.out _ (HB.out.2.trans (HB5.out.mono hwz)) _ _ _ _ _ _ HD8.out).mono ?_);rintro e w9 ⟨rfl,hb⟩;replace HB5:=Lh (HB5.out.trans (hb.mono HB5.out.size));obtain ⟨a0,a1,a2,a3,a4,a5,a6⟩:=seven_of ((HB5.out.block _ (by omega)).trans HA6.out);obtain ⟨s0,s1,s2,s3,s4,s5,s6,s7,s8,s9,s10,sf⟩:=eleven_of ((HB5.out.block _ (by omega)).trans HC6.out);clear hb))
   clear a0 a1 a2 a3 a4 a5 a6 s0 s1 s2 s3 s4 s5 s6 s7 s8 s9 s10 sf HD8 HK1 HK2 HK3 HC6 HTT HTN TK
   have hbw9 : Below w.heap.size w w9:=HB.out.2.trans (HB5.out.mono hwz)
   have A9:=(HB5.out.block _ (by omega)).trans HA6.out
   have hL9:=(HLL.out.2.below HB.out.1).below HB5.out
   have hz9:=HB5.out.size
   clear HB HA6 HB5 HLL
   have HA9:=Lh (And.intro hbw9 (And.intro A9 hL9))
   clear hbw9 A9 hL9
   go_wp2
   go_loopw [12,13,14] (fun fv jv iv wr => ∃ i j fr : Nat,fv = .int .i64 fr ∧ jv = .int .i64 j ∧ iv = .int .i64 i ∧ i ≤ N ∧ fr ≤ i ∧ j ≤ i ∧ Below w9.heap.size w9 wr ∧ Hid (PlJ ps i j fr)) (fun _ _ iv _ => N - (intOf iv).toNat)
   case atStart => exact ⟨0,0,0,rfl,rfl,rfl,Nat.zero_le _,Nat.zero_le _,Nat.zero_le _,Below.refl _ _,Lh HPS.out.2.2.start⟩
   case round =>
     obtain ⟨i,j,fr,rfl,rfl,rfl,hi,hfi,hji,hbr,HJ⟩:=hrel
     by_cases hlt : i < N
     · have hil : i < l.length:=by rw [HN.out];exact hlt
       have hLr:=(HA9.out.2.2).below hbr
       obtain ⟨g,off,rfl,hg,c0,c1,c2,c3⟩:=slot_at hLr i hil
       have hls : l[i] = slotW ps (mostW D.items) i:=by
         have h1:=HPS.out.1
         subst h1
         exact slotsW_at _ _ _ _
       have hmo : i ≤ mostW D.items:=by
         have h1:=HN.out
         rw [HPS.out.1,slotsW_len] at h1;omega
       have hrd:=slot_round HPS.out.2.2 HJ.out hmo
       obtain ⟨x,hx⟩ : ∃ x,slotW ps (mostW D.items) i = x:=⟨_,rfl⟩
       rw [hx] at hls hrd
       rw [hls] at c0 c1 c2 c3
       rcases hrd with ⟨hk0,hJ1⟩ | ⟨hk1,hj,t,rest,hit,hdr,ha0,hal,hnum,hgen,hJ1⟩
       · rw [hk0] at c1
         have HJ1:=Lh hJ1
         clear hJ1 hx hls hLr hil hk0
         go_wp2
         go_roundw
         case rel => exact ⟨i + 1,j,fr + 1,by go_num,rfl,by go_num,by omega,by omega,by omega,hbr,HJ1⟩
         case measure => simp [intOf];omega
       · rw [hk1] at c1
         obtain ⟨an,han⟩ : ∃ an : Nat,x.a = (an : Int):=⟨x.a.toNat,by omega⟩
         rw [han] at c2 ha0 hal hdr
         have hit2 : D.items[j]? = some D.items[j]:=List.getElem?_eq_getElem hj
         obtain ⟨it,hitd⟩ : ∃ it,D.items[j] = it:=⟨_,rfl⟩
         have HRI:=Lh (fun W => k8read ⟨f.toArray⟩ HFL.out an (by show an ≤ f.length;omega) D.items[j] t rest hit (by simpa using hdr) W)
         have hjn : j < n:=by have:=HDT.out.2.2.2.1;omega
         have hsm:=HDT.out.2.2.2.2.1 D.items[j] (List.getElem_mem hj)
         rw [hitd] at HRI hnum hgen hsm
         rw [hnum] at c0
         rw [hgen] at c3
         have HJ1:=Lh hJ1
         have HSM:=Lh hsm
         have HIT:=Lh (show ∃ hj : j < D.items.length,D.items[j] = it from ⟨hj,hitd⟩)
         clear hx hls hLr hil hk1 hit hdr hnum hgen hJ1 hsm hit2 hitd hal ha0 han
         go_wp2_with fail
         refine (HRI.out _).mono ?_
         rintro e v1 ⟨y1,m1,e1,y2,m3,e2,q3,rfl,hOy,hb⟩
         obtain ⟨Y,hY⟩ : ∃ Y,v1.heap.size = Y:=⟨_,rfl⟩
         go_upto_region 18 with fail
         obtain ⟨v2,hv2⟩ : ∃ v2,v1.alloc (.cells #[.int .i64 it.num,.int .i64 it.gen,.int .i64 it.ob.kind,.int .i64 it.ob.n,.int .i64 it.ob.g,.string ⟨it.ob.s.toArray⟩,.slice y1 m1 e1,.slice y2 m3 e2] 50) = v2:=⟨_,rfl⟩
         rw [hv2]
         have hb12 : Below v1.heap.size v1 v2:=by rw [← hv2];exact belr
         have Y2 : v2.heap[Y]? = some (.cells #[.int .i64 it.num,.int .i64 it.gen,.int .i64 it.ob.kind,.int .i64 it.ob.n,.int .i64 it.ob.g,.string ⟨it.ob.s.toArray⟩,.slice y1 m1 e1,.slice y2 m3 e2] 50 (0,0)):=by rw [← hv2];exact heap_new_at _ _ _ hY.symm
         have hz2' : v2.heap.size = Y + 1:=by rw [← hv2,← hY];simp
         have hbr2 : Below wr.heap.size wr v2:=hb.trans (hb12.mono hb.size)
         have hb92 : Below w9.heap.size w9 v2:=hbr.trans (hbr2.mono hbr.size)
         have hbw2 : Below w.heap.size w v2:=HA9.out.1.trans (hb92.mono HA9.out.1.size)
         have HOY:=Lh ((hOy.weaken (S':=fun b => b < v1.heap.size) (fun b _ h => h) 25).kept (fun b h => hb12.block b h) 25)
         have hwz9:=HA9.out.1.size
         have hrz:=hbr.size
         have hvz:=hb.size
         have HA2:=Lh ((hb92.block w.heap.size (by omega)).trans HA9.out.2.1)
         have kg:=fun o => World.cell?_of_block (a:=⟨g,o,none⟩) (hbr2.block g hg)
         have hI2:=HDT.out.1.kept (fun b h => hbw2.block b (HDT.out.2.2.1 b h))
         obtain ⟨bi,oi,rfl⟩:=hI2.addr HDT.out.2.2.2.1 j hjn
         obtain ⟨u1,b1,f1,u2,b2,f2,hbi,i0,i1,i2,i3,i4,i5,i6,i7,hIO⟩:=item_at hI2 j (by have:=HDT.out.2.2.2.1;omega)
         rw [HIT.out.2] at i0 i1 i2 i3 i4 i5 hIO
         have hbiw:=HDT.out.2.2.1 bi hbi
         have HSI:=Lh (fun (W : World) (hW : Below v2.heap.size v2 W) => rsameitem (d + 1 + 25) W it.num it.gen it.ob y1 y2 u1 u2 m1 e1 m3 e2 b1 f1 b2 f2
           (by rw [Nat.add_comm];exact objUpN ((HOY.out.kept (w':=W) (fun b h => hW.block b (by omega)) 25).weaken (fun b h _ => by have:=hW.size;omega) 25) (d + 1))
           (objUpN ((hIO.kept (w':=W) (fun b h => hW.block b (by have:=HDT.out.2.2.1 b h;omega)) (d + 1)).weaken (fun b h _ => by have:=HDT.out.2.2.1 b h;have:=hW.size;omega) (d + 1)) 25)
           (smallUpN HSM.out 25))
         have HY2:=Lh Y2
         have HL2:=Lh (And.intro ((kg _).trans c0) ((kg _).trans c3))
         have HI2:=Lh (And.intro i0 (And.intro i1 (And.intro i2 (And.intro i3 (And.intro i4 (And.intro i5 (And.intro i6 i7)))))))
         have HBR2:=Lh hb92
         have HG2:=Lh (show g < v2.heap.size by have:=hbr2.size;omega)
         clear hv2 hb hb12 hbr2 hb92 hbw2 hOy hI2 hIO c0 c1 c2 c3 kg Y2 i0 i1 i2 i3 i4 i5 i6 i7 HRI
         have HB5:=Lh (show Below v2.heap.size v2 v2.drew from (Below.refl _ _).drew)
         obtain ⟨y0',y1',y2',y3',y4',y5',y6',y7',yf'⟩:=eightf ((HB5.out.block _ (by omega)).trans HY2.out)
         obtain ⟨a0,a1,a2,a3,a4,a5,a6⟩:=seven_of ((HB5.out.block _ (by omega)).trans HA2.out)
         have ki:=fun o => World.cell?_of_block (a:=⟨bi,o,none⟩) (HB5.out.block bi (by omega))
         have i0:=(ki _).trans HI2.out.1
         have i1:=(ki _).trans HI2.out.2.1
         have i2:=(ki _).trans HI2.out.2.2.1
         have i3:=(ki _).trans HI2.out.2.2.2.1
         have i4:=(ki _).trans HI2.out.2.2.2.2.1
         have i5:=(ki _).trans HI2.out.2.2.2.2.2.1
         have i6:=(ki _).trans HI2.out.2.2.2.2.2.2.1
         have i7:=(ki _).trans HI2.out.2.2.2.2.2.2.2
         have kl:=fun o => World.cell?_of_block (a:=⟨g,o,none⟩) (HB5.out.block g HG2.out)
         have c0:=(kl _).trans HL2.out.1
         have c3:=(kl _).trans HL2.out.2
         clear ki kl
         have jn : decide ((j : Int) ≥ (n : Int)) = false:=by simp;omega
         have jn4 : decide ((n : Int) ≤ (j : Int)) = false:=by simp;omega
         have jn5 : ¬ n ≤ j:=by omega
         have jn2 : (0 : Int) ≤ j:=by omega
         have jn3 : (j : Int) < n:=by omega
         have in2 : (0 : Int) ≤ i:=by omega
         have in3 : (i : Int) < N:=by omega
         have v2' : g < v2.heap.size:=HG2.out
         have wlt : w.heap.size < v2.heap.size:=by omega
         have ylt : Y < v2.heap.size:=by omega
         have ilt : bi < v2.heap.size:=by omega
         go_region_held3 (fun w' => w'.cell? ⟨Y, 0, none⟩ = some (.int .i64 it.num) ∧ w'.cell? ⟨Y, 1, none⟩ = some (.int .i64 it.gen) ∧ w'.cell? ⟨Y, 2, none⟩ = some (.int .i64 it.ob.kind) ∧ w'.cell? ⟨Y, 3, none⟩ = some (.int .i64 it.ob.n) ∧ w'.cell? ⟨Y, 4, none⟩ = some (.int .i64 it.ob.g) ∧ w'.cell? ⟨Y, 5, none⟩ = some (.string ⟨it.ob.s.toArray⟩) ∧ w'.cell? ⟨Y, 6, none⟩ = some (.slice y1 m1 e1) ∧ w'.cell? ⟨Y, 7, none⟩ = some (.slice y2 m3 e2)
             ∧ w'.cell? ⟨w.heap.size,0,none⟩ = some (.slice (some ⟨bi,oi,none⟩) n ic)
             ∧ w'.cell? ⟨bi,oi + j * 8,none⟩ = some (.int .i64 it.num) ∧ w'.cell? ⟨bi,oi + j * 8 + 1,none⟩ = some (.int .i64 it.gen) ∧ w'.cell? ⟨bi,oi + j * 8 + 2,none⟩ = some (.int .i64 it.ob.kind) ∧ w'.cell? ⟨bi,oi + j * 8 + 3,none⟩ = some (.int .i64 it.ob.n) ∧ w'.cell? ⟨bi,oi + j * 8 + 4,none⟩ = some (.int .i64 it.ob.g) ∧ w'.cell? ⟨bi,oi + j * 8 + 5,none⟩ = some (.string ⟨it.ob.s.toArray⟩) ∧ w'.cell? ⟨bi,oi + j * 8 + 6,none⟩ = some (.slice u1 b1 f1) ∧ w'.cell? ⟨bi,oi + j * 8 + 7,none⟩ = some (.slice u2 b2 f2)
             ∧ w'.cell? ⟨g,off + i * 4,none⟩ = some (.int .i64 it.num) ∧ w'.cell? ⟨g,off + i * 4 + 3,none⟩ = some (.int .i64 it.gen)) (go_keep)
           ((go_at_call 18;(with_reducible refine (HSI.out _ HB5.out).mono ?_);rintro e v3 ⟨rfl,hb⟩;replace HB5:=Lh (HB5.out.trans (hb.mono HB5.out.size));obtain ⟨y0',y1',y2',y3',y4',y5',y6',y7',yf'⟩:=eightf ((HB5.out.block _ (by omega)).trans HY2.out);obtain ⟨a0,a1,a2,a3,a4,a5,a6⟩:=seven_of ((HB5.out.block _ (by omega)).trans HA2.out);have ki:=fun o => World.cell?_of_block (a:=⟨bi,o,none⟩) (HB5.out.block bi (by omega));have i0:=(ki _).trans HI2.out.1;have i1:=(ki _).trans HI2.out.2.1;have i2:=(ki _).trans HI2.out.2.2.1;have i3:=(ki _).trans HI2.out.2.2.2.1;have i4:=(ki _).trans HI2.out.2.2.2.2.1;have i5:=(ki _).trans HI2.out.2.2.2.2.2.1;have i6:=(ki _).trans HI2.out.2.2.2.2.2.2.1;have i7:=(ki _).trans HI2.out.2.2.2.2.2.2.2;have kl:=fun o => World.cell?_of_block (a:=⟨g,o,none⟩) (HB5.out.block g HG2.out);have c0:=(kl _).trans HL2.out.1;have c3:=(kl _).trans HL2.out.2;clear ki kl;clear hb))
         have HBR3:=Lh (HBR2.out.trans (HB5.out.mono HBR2.out.size))
         clear y0' y1' y2' y3' y4' y5' y6' y7' yf' a0 a1 a2 a3 a4 a5 a6 i0 i1 i2 i3 i4 i5 i6 i7 c0 c3 HB5 HY2 HL2 HI2 HBR2 HA2 HSI HOY
         go_wp2
         go_roundw
         case rel => exact ⟨i + 1,j + 1,fr,rfl,by go_num,by go_num,by omega,by omega,by omega,HBR3.out,HJ1⟩
         case measure => simp [intOf];omega
     · have hiN : i = mostW D.items + 1 := by
         have h1:=HN.out
         rw [HPS.out.1,slotsW_len] at h1;omega
       obtain ⟨hjn,hfr⟩:=(show PlJ ps (mostW D.items + 1) j fr from by rw [← hiN];exact HJ.out).last HPS.out.2.2
       have h1f:=HPS.out.2.2.one_free
       rw [← hfr] at h1f
       rw [HDT.out.2.2.2.1] at hjn
       subst hjn
       have HFR:=Lh hfr
       have hA0:=(hbr.block w.heap.size (by have:=HA9.out.1.size;omega)).trans HA9.out.2.1
       have HAr:=Lh (And.intro hA0 (HA9.out.2.2.below hbr))
       have hbwr : Below w.heap.size w wr:=HA9.out.1.trans (hbr.mono HA9.out.1.size)
       have HBr:=Lh hbwr
       clear hA0 hbr hbwr hfr HJ HA9
       go_wp2
       go_loopw [18,19] (fun kv nv wx => ∃ k m : Nat,kv = .int .i64 k ∧ nv = .int .i64 m ∧ 1 ≤ m ∧ m ≤ fr ∧ k < N ∧ wx = wr ∧ Hid (PlK ps (mostW D.items) m k)) (fun _ nv _ => fr - (intOf nv).toNat)
       case atStart => exact ⟨0,1,rfl,rfl,Nat.le_refl _,h1f,hN1,rfl,Lh HPS.out.2.2.startK⟩
       case round =>
         obtain ⟨k,m,rfl,rfl,hm1,hm2,hk,rfl,HK⟩:=hrel
         have hkl : k < l.length:=by rw [HN.out];exact hk
         have hsl : ∀ i (hi : i < l.length),l[i] = slotW ps (mostW D.items) i:=by
           intro i hi
           have h1:=HPS.out.1
           subst h1
           exact slotsW_at _ _ _ _
         obtain ⟨g,off,rfl,hg,c0,c1,c2,c3⟩:=slot_at HAr.out.2 k hkl
         rw [hsl k hkl] at c2
         obtain ⟨a0,a1,a2,a3,a4,a5,a6⟩:=seven_of HAr.out.1
         by_cases hlt : m < fr
         · obtain ⟨q1,q2,q3,q4⟩:=HK.out.next (by rw [← HFR.out];exact hlt)
           rw [HK.out.a] at c2
           obtain ⟨k2,hk2⟩ : ∃ k2,freeA ps (mostW D.items) k = k2:=⟨_,rfl⟩
           rw [hk2] at q1 q2 q3 q4 c2
           have hk2N : k2 < N:=by have:=HN.out;rw [HPS.out.1,slotsW_len] at this;omega
           have hk2l : k2 < l.length:=by rw [HN.out];exact hk2N
           obtain ⟨g',off',e',z1,z2,d1,z3,z4⟩:=slot_at HAr.out.2 k2 hk2l
           rw [hsl k2 hk2l,q3] at d1
           cases e'
           have HK2:=Lh q4
           clear z1 z2 z3 z4 q3 q4 hk2 hk2l hkl hsl c0 c1 c3 q2 a0 a1 a2 a3 a4 a5 a6
           have f1 : decide ((k2 : Int) ≤ 0) = false:=by simp;omega
           have f2 : decide ((k2 : Int) ≥ (N : Int)) = false:=by simp;omega
           have f3 : decide ((N : Int) ≤ (k2 : Int)) = false:=by simp;omega
           have f4 : ¬ k2 = 0:=by omega
           have f5 : ¬ N ≤ k2:=by omega
           have f6 : (0 : Int) ≤ k2:=by omega
           have f7 : (k2 : Int) < N:=by omega
           have f8 : (0 : Int) ≤ k:=by omega
           have f9 : (k : Int) < N:=by omega
           go_wp2
           exact ⟨⟨k2,m + 1,rfl,by go_num,by omega,by omega,hk2N,trivial,HK2⟩,by simp [intOf];omega⟩
         · have hmf : m = fr:=by omega
           have hend:=HK.out.end_ (by rw [hmf];exact HFR.out)
           rw [hend] at c2
           clear hend hmf hkl hsl c0 c1 c3
           go_wp2_with fail
           refine (HLV.out _ HBr.out).mono ?_
           rintro e w10 ⟨rfl,hb10⟩
           go_wp2
           go_ret
           exact ⟨rfl,HBr.out.trans (hb10.mono HBr.out.size)⟩
end Go.Proofs.YtfgdhcemidlnfaaGreatDoor
