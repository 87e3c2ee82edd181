/- Parts of the proof: RkC Read2 RefH RefO Object2 PgQ Kids PgP. -/
import Derived.Test.YtfgdhcemidlnfaaGreatDoorPpn
import Derived.Test.YtfgdhcemidlnfaaGreatDoorPpf
import Derived.Test.YtfgdhcemidlnfaaGreatDoorPpc
import Derived.Test.YtfgdhcemidlnfaaGreatDoorPpa
import Derived.Deep.RegionHeld3
import Derived.Deep.DeepCutAuto
import Derived.Deep.AppendLies
set_option linter.all false
set_option maxRecDepth 100000
set_option maxHeartbeats 8000000
namespace Go.Proofs.YtfgdhcemidlnfaaGreatDoor
open Go.RowKit Fo
theorem set_self {cur : Array Value} {i : Nat} {v : Value} (h : cur[i]? = some v) : cur.setIfInBounds i v = cur:=by
 apply Array.ext_getElem?
 intro j
 rw [Array.getElem?_setIfInBounds]
 by_cases e : i = j
 · subst e
   have hl : i < cur.size:=(Array.getElem?_eq_some_iff.1 h).1
   simp [hl,h]
   exact (Array.getElem?_eq_some_iff.1 h).2.symm
 · simp [e]
theorem row_put {w : World} {B g n q : Nat} {acc : List Sl} {x : Sl} (h : rownS slE 48 w B (.slice (some ⟨g, 0, none⟩) (n + 1) q) (acc ++ [x])) (hn : acc.length = n) :
   rownS slE 48 ((((w.setCell ⟨g,n * 4,none⟩ (.int .i64 x.num)).setCell ⟨g,n * 4 + 1,none⟩ (.int .i64 x.kind)).setCell ⟨g,n * 4 + 2,none⟩ (.int .i64 x.a)).setCell ⟨g,n * 4 + 3,none⟩ (.int .i64 x.b)) B (.slice (some ⟨g,0,none⟩) (n + 1) q) (acc ++ [x]):=by
 have ha:=h.arg
 have hlen : n < (acc ++ [x]).length:=by simp [hn]
 obtain ⟨g',off,e0,_,c0,c1,c2,c3⟩:=slot_at ha n hlen
 cases e0
 have hx : (acc ++ [x])[n] = x:=by simp [← hn]
 rw [hx] at c0 c1 c2 c3
 rw [Nat.zero_add] at c0 c1 c2 c3
 rcases h with ⟨h0,h1 | ⟨g2,cap,cur,h1,h2,h3,h4⟩⟩
 · cases h1.1
 · obtain ⟨e1,e2,e3⟩:=Value.slice.inj h1
   obtain rfl : g = g2:=by cases e1;rfl
   subst e3
   have k : ∀ i v,w.cell? ⟨g,i,none⟩ = some v → cur[i]? = some v:=fun i v hv => by simpa [World.cell?,h3] using hv
   refine ⟨h0,.inr ⟨g,q,cur,h1,h2,?_,h4⟩⟩
   have s0:=set_any (o:=n * 4) (v:=.int .i64 x.num) h3
   rw [set_self (k _ _ c0)] at s0
   have s1:=set_any (o:=n * 4 + 1) (v:=.int .i64 x.kind) s0
   rw [set_self (k _ _ c1)] at s1
   have s2:=set_any (o:=n * 4 + 2) (v:=.int .i64 x.a) s1
   rw [set_self (k _ _ c2)] at s2
   have s3:=set_any (o:=n * 4 + 3) (v:=.int .i64 x.b) s2
   rw [set_self (k _ _ c3)] at s3
   exact s3
theorem row_thaw {w : World} {B g n q : Nat} {xs : List Sl} (h : rownS slE 48 w B (.slice (some ⟨g,0,none⟩) n q) xs) (o : Nat) : w.frozen? ⟨g,o,none⟩ = false:=by
 rcases h with ⟨h0,h1 | ⟨g2,cap,cur,h1,h2,h3,h4⟩⟩
 · cases h1.1
 · obtain ⟨e1,e2,e3⟩:=Value.slice.inj h1
   obtain rfl : g = g2:=by cases e1;rfl
   simp [World.frozen?,h3]
theorem klay (B : Nat) (v : Value) (acc : List Sl) (x : Sl) (w : World) (h : rownS slE 48 w B v acc) (hB : B ≤ w.heap.size) (hlt : ∀ y ∈ acc, y.num < x.num) (hl : acc.length ≤ 8192) :
   Calls Tryz.prog 36 #[v,.agg #[.int .i64 x.num,.int .i64 x.kind,.int .i64 x.a,.int .i64 x.b]] w fun e w' => ∃ p c,e = .returned (.tuple #[.slice p (acc.length + 1) c,.bool true]) ∧ rownS slE 48 w' B (.slice p (acc.length + 1) c) (acc ++ [x]) ∧ Below B w w':=by
 obtain ⟨p,cp,rfl⟩:=rown_slice h
 obtain ⟨n,hn⟩ : ∃ n,acc.length = n:=⟨_,rfl⟩
 have HH:=Lh h
 have HN:=Lh hn
 rw [hn] at HH hl ⊢
 have wj : ∀ j : Nat,j ≤ 8192 → IntKind.i64.wrap (j : Int) = j:=fun j hj => IntWalk.i64_in _ (by omega)
 have HLT:=Lh hlt
 clear h hn hlt
 go_enter Tryz.func36,Tryz.ntmps36
 go_wp2
 go_loopw [6] (fun i wr => i = .int .i64 n ∧ Below w.heap.size w wr ∧ wr.heap[w.heap.size]? = some (.cells #[.int .i64 x.num,.int .i64 x.kind,.int .i64 x.a,.int .i64 x.b] 48 (0,0))) (fun _ _ => 0)
 case atStart => exact ⟨rfl,bel,heap_new_at _ _ _ rfl⟩
 case round =>
   obtain ⟨rfl,hbr,hbox⟩:=hrel
   have hzr:=lt_of_block hbox
   have hrow:=HH.out.below hbr
   have hown : ∀ k,(Value.slice p n cp).ownBlock = some k → k < w.heap.size:=fun k hk => (World.ownsRow.lt HH.out k hk).2
   have HOW:=Lh hown
   obtain ⟨x0,x1,x2,x3⟩:=four_of hbox
   have HBX:=Lh hbox
   have HRO:=Lh hrow
   clear hown hbox hrow
   by_cases hn0 : n = 0
   · subst hn0
     go_wp2_with fail
     go_quiet (fail)
     obtain ⟨wq,hwq⟩ : ∃ wq,wr.drewN nq = wq:=⟨_,rfl⟩
     have hbq : Below wr.heap.size wr wq:=by rw [← hwq];exact belowDrewN (Below.refl _ _) _
     have hboxq:=(hbq.block _ hzr).trans HBX.out
     have hrowq:=HRO.out.below hbq
     obtain ⟨q0,q1,q2,q3⟩:=four_of hboxq
     have hzq:=hbq.size
     have hne:=fun e => show False from by have:=HOW.out w.heap.size e;omega
     rw [hwq]
     clear hwq x0 x1 x2 x3 wj
     go_upto_region 7 with (at_builtin;go_must (refine rappend (E:=slE) rfl _ _ rfl Tryz.underlying34 Tryz.infoSl rfl (by decide) (by decide) B _ acc x hrowq rfl rfl (by rw [HN.out];omega) (by omega) ?_);intro p2 qq w2 hr2 hb2 hz2 hg2)
     rw [HN.out] at hr2 ⊢
     have hbox2:=(hg2.block w.heap.size (by simp;omega) (fun e => hne e.symm)).trans ((Below.heap_alloc _ _ _ (by omega)).trans hboxq)
     obtain ⟨y0,y1,y2,y3⟩:=four_of hbox2
     obtain ⟨g2,cc,e2,hBg,hgl2,hcells⟩:=row_addr hr2 (by simp)
     obtain rfl : p2 = some ⟨g2,0,none⟩:=by injection e2
     have hbw2 : Below B w w2:=(hbr.mono hB).trans ((hbq.mono (by omega)).trans hb2)
     clear hboxq hrowq q0 q1 q2 q3 hzq hg2 hb2 hbq hne e2
     have gf:=row_thaw hr2
     have hcl:=hcells 0 (by rw [List.length_append,HN.out];simp)
     have gx : (acc ++ [x])[0]'(by rw [List.length_append,HN.out];simp) = x:=by simp [← HN.out]
     rw [gx] at hcl
     have d0:=hcl 0 _ rfl
     have d1:=hcl 1 _ rfl
     have d2:=hcl 2 _ rfl
     have d3:=hcl 3 _ rfl
     simp only [slE,Nat.zero_mul,Nat.add_zero] at d0 d1 d2 d3
     clear hcells hcl gx
     go_wp2
     go_loopw [7] (fun i wr2 => i = .int .i64 0 ∧ wr2 = w2) (fun _ _ => 0)
     case atStart => exact ⟨by go_num,rfl⟩
     case round =>
       obtain ⟨rfl,h2⟩:=hrel
       obtain rfl:=h2.symm
       have v1 : (0 : Int) ≤ 0:=by omega
       have v2 : (0 : Int) < 0 + 1:=by omega
       go_wp2
       have hrp:=row_put hr2 HN.out
       have hbp:=(((hbw2.setCell (p:=⟨g2,0 * 4,none⟩) hBg (.int .i64 x.num)).setCell (p:=⟨g2,0 * 4 + 1,none⟩) hBg (.int .i64 x.kind)).setCell (p:=⟨g2,0 * 4 + 2,none⟩) hBg (.int .i64 x.a)).setCell (p:=⟨g2,0 * 4 + 3,none⟩) hBg (.int .i64 x.b)
       (try simp only [Nat.zero_mul,Nat.zero_add] at hrp hbp)
       go_ret2
       exact ⟨some ⟨g2,0,none⟩,qq,rfl,hrp,hbp⟩
   · obtain ⟨j,rfl⟩ : ∃ j,n = j + 1:=⟨n - 1,by omega⟩
     obtain ⟨g,off,rfl,hgl,c0,c1,c2,c3⟩:=slot_at HRO.out.arg j (by rw [HN.out];omega)
     have hlt:=HLT.out (acc[j]'(by rw [HN.out];omega)) (List.getElem_mem _)
     obtain ⟨y,hy⟩ : ∃ y,(acc[j]'(by rw [HN.out];omega)).num = y:=⟨_,rfl⟩
     rw [hy] at c0 hlt
     have d0 : decide (y ≥ x.num) = false:=by simp;omega
     have v1 : (0 : Int) ≤ j:=by omega
     have v2 : (j : Int) < (j : Int) + 1:=by omega
     have w1 : IntKind.i64.wrap ((j : Int) + 1 - 1) = j:=by rw [show (j : Int) + 1 - 1 = j by omega];exact wj j (by omega)
     clear hy hlt
     go_wp2_with fail
     go_quiet (fail)
     obtain ⟨wq,hwq⟩ : ∃ wq,wr.drewN nq = wq:=⟨_,rfl⟩
     have hbq : Below wr.heap.size wr wq:=by rw [← hwq];exact belowDrewN (Below.refl _ _) _
     have hboxq:=(hbq.block _ hzr).trans HBX.out
     have hrowq:=HRO.out.below hbq
     obtain ⟨q0,q1,q2,q3⟩:=four_of hboxq
     have hzq:=hbq.size
     have hne:=fun e => show False from by have:=HOW.out w.heap.size e;omega
     rw [hwq]
     clear hwq x0 x1 x2 x3 wj
     go_upto_region 7 with (at_builtin;go_must (refine rappend (E:=slE) rfl _ _ rfl Tryz.underlying34 Tryz.infoSl rfl (by decide) (by decide) B _ acc x hrowq rfl rfl (by rw [HN.out];omega) (by omega) ?_);intro p2 qq w2 hr2 hb2 hz2 hg2)
     rw [HN.out] at hr2 ⊢
     have hbox2:=(hg2.block w.heap.size (by simp;omega) (fun e => hne e.symm)).trans ((Below.heap_alloc _ _ _ (by omega)).trans hboxq)
     obtain ⟨y0,y1,y2,y3⟩:=four_of hbox2
     obtain ⟨g2,cc,e2,hBg,hgl2,hcells⟩:=row_addr hr2 (by simp)
     obtain rfl : p2 = some ⟨g2,0,none⟩:=by injection e2
     have hbw2 : Below B w w2:=(hbr.mono hB).trans ((hbq.mono (by omega)).trans hb2)
     clear hboxq hrowq q0 q1 q2 q3 hzq hg2 hb2 hbq hne e2
     have gf:=row_thaw hr2
     have hcl:=hcells (j + 1) (by rw [List.length_append,HN.out];simp)
     have gx : (acc ++ [x])[(j + 1)]'(by rw [List.length_append,HN.out];simp) = x:=by simp [← HN.out]
     rw [gx] at hcl
     have d0:=hcl 0 _ rfl
     have d1:=hcl 1 _ rfl
     have d2:=hcl 2 _ rfl
     have d3:=hcl 3 _ rfl
     simp only [slE,Nat.zero_mul,Nat.add_zero] at d0 d1 d2 d3
     clear hcells hcl gx
     go_wp2
     go_loopw [7] (fun i wr2 => i = .int .i64 ((j : Int) + 1) ∧ wr2 = w2) (fun _ _ => 0)
     case atStart => exact ⟨by go_num,rfl⟩
     case round =>
       obtain ⟨rfl,h2⟩:=hrel
       obtain rfl:=h2.symm
       have v1 : (0 : Int) ≤ ((j : Int) + 1):=by omega
       have v2 : (((j : Int) + 1) : Int) < ((j : Int) + 1) + 1:=by omega
       go_wp2
       have hrp:=row_put hr2 HN.out
       have hbp:=(((hbw2.setCell (p:=⟨g2,(j + 1) * 4,none⟩) hBg (.int .i64 x.num)).setCell (p:=⟨g2,(j + 1) * 4 + 1,none⟩) hBg (.int .i64 x.kind)).setCell (p:=⟨g2,(j + 1) * 4 + 2,none⟩) hBg (.int .i64 x.a)).setCell (p:=⟨g2,(j + 1) * 4 + 3,none⟩) hBg (.int .i64 x.b)
       (try simp only [Nat.zero_mul,Nat.zero_add] at hrp hbp)
       go_ret2
       exact ⟨some ⟨g2,0,none⟩,qq,rfl,hrp,hbp⟩
theorem kslots (v1 v2 : Value) (l : List Sl) (w : World) (h1 : RArg slE w v1 l) (h2 : RArg slE w v2 l) (hl : l.length ≤ 100000) :
   Calls Tryz.prog 12 #[v1,v2] w fun e w' => e = .returned (.bool true) ∧ Below w.heap.size w w':=by
 obtain ⟨p1,c1,rfl,h1'⟩:=id h1
 obtain ⟨p2,c2,rfl,h2'⟩:=id h2
 obtain ⟨n,hn⟩ : ∃ n,l.length = n:=⟨_,rfl⟩
 have HH:=Lh (And.intro h1 h2)
 have HN:=Lh hn
 rw [hn] at HH hl ⊢
 clear h1 h2 h1' h2' hn
 go_enter Tryz.func12,Tryz.ntmps12
 go_wp2
 go_loopw [5] (fun i wr => ∃ k : Nat,k ≤ n ∧ i = .int .i64 k ∧ Below w.heap.size w wr) (fun i _ => n - (intOf i).toNat)
 case atStart => exact ⟨0,Nat.zero_le _,rfl,Below.refl _ _⟩
 case round =>
   obtain ⟨k,hk,rfl,hbr⟩:=hrel
   by_cases hlk : k < n
   · obtain ⟨g1,o1,e1,_,a0,a1,a2,a3⟩:=slot_at (HH.out.1.below hbr) k (by rw [HN.out];exact hlk)
     obtain ⟨g2,o2,e2,_,b0,b1,b2,b3⟩:=slot_at (HH.out.2.below hbr) k (by rw [HN.out];exact hlk)
     obtain ⟨X,hX⟩ : ∃ X,l[k]'(by rw [HN.out];exact hlk) = X:=⟨_,rfl⟩
     rw [hX] at a0 a1 a2 a3 b0 b1 b2 b3
     subst e1
     subst e2
     clear hX
     have v1 : (0 : Int) ≤ k:=by omega
     have v2 : (k : Int) < n:=by omega
     go_wp2_with fail
     go_quiet (fail)
     go_wp2
     go_roundw
     case rel => exact ⟨k + 1,by omega,by go_num,bel⟩
     case measure => simp [intOf];omega
   · go_wp2
     go_ret
     exact ⟨rfl,hbr⟩
def obV (k n g : Int) (s : L) : Value:=.agg #[.int .i64 k,.int .i64 n,.int .i64 g,.string ⟨s.toArray⟩,.slice none 0 0,.slice none 0 0]
theorem obV_at (S : Nat → Prop) (d : Nat) (w : World) (k n g : Int) (s : L) : ObjAt S (d + 1) w (objCells k n g s (.slice none 0 0) (.slice none 0 0)) (.mk k n g s [] []) :=
 ⟨_,_,rfl,.inl ⟨rfl,_,_,rfl⟩,.inl ⟨rfl,_,_,rfl⟩⟩
theorem rbegins_tok (t : Tok) (p q : Int) (b : Bool) (h : beginsS t = b) (hk : (t.kind != 0) = true) (w : World) :
   Calls Tryz.prog 107 #[.agg #[.int .i64 t.kind,.int .i64 p,.int .i64 q,.int .i64 t.n,.string ⟨t.s.toArray⟩]] w fun e w' => e = .returned (.bool b) ∧ Below w.heap.size w w':=by
 have H:=Lh h
 have HK:=Lh hk
 clear h hk
 go_enter Tryz.func107,Tryz.ntmps107
 go_wp2
 all_goals go_ret
 all_goals exact ⟨ret_bool (by have:=HK.out;rw [← H.out];simp_all [beginsS,wTrue,wFalse,wNull]),bel⟩
def RefOut (s : ByteArray) (R : Option (Int × L)) (e : Ending) : Prop :=
 match R with
 | none => ∃ x y : Int,e = .returned (.tuple #[.int .i64 x,.int .i64 y,.bool false])
 | some r => ∃ z : Nat,z ≤ s.size ∧ s.data.toList.drop z = r.2 ∧ e = .returned (.tuple #[.int .i64 r.1,.int .i64 z,.bool true])
theorem rref (s : ByteArray) (t : Tok) (p : Int) (q : Nat) (hq : q ≤ s.size) (hs : s.size ≤ 140737488355327) (w : World) :
   Calls Tryz.prog 108 #[.string s,.agg #[.int .i64 t.kind,.int .i64 p,.int .i64 q,.int .i64 t.n,.string ⟨t.s.toArray⟩]] w fun e w' => RefOut s (refS t (s.data.toList.drop q)) e ∧ Below w.heap.size w w':=by
 obtain ⟨R,hR⟩ : ∃ R,refS t (s.data.toList.drop q) = R:=⟨_,rfl⟩
 rw [hR]
 unfold refS at hR
 by_cases h1 : t.n < 1
 · have HX:=Lh (show R = none by rw [← hR];simp [h1])
   have t1 : decide (t.n < 1) = true:=by simpa using h1
   clear hR h1
   go_enter Tryz.func108,Tryz.ntmps108
   go_wp2
   refine bodyPost_ret (v:=.tuple #[.int .i64 0,.int .i64 0,.bool false]) (by simp [results,Tryz.results108,go_sem]) rfl ⟨by rw [HX.out];exact ⟨_,_,rfl⟩,bel⟩
 have t1 : decide (t.n < 1) = false:=by simpa using h1
 by_cases h2 : 8191 < t.n
 · have HX:=Lh (show R = none by rw [← hR];simp [h2])
   have t2 : decide (8191 < t.n) = true:=by simpa using h2
   clear hR h1 h2
   go_enter Tryz.func108,Tryz.ntmps108
   go_wp2
   refine bodyPost_ret (v:=.tuple #[.int .i64 0,.int .i64 0,.bool false]) (by simp [results,Tryz.results108,go_sem]) rfl ⟨by rw [HX.out];exact ⟨_,_,rfl⟩,bel⟩
 have t2 : decide (8191 < t.n) = false:=by simpa using h2
 rw [if_neg (by omega)] at hR
 clear h1 h2
 cases hn : (nextT (s.data.toList.drop q)).2 with
 | bad k =>
   rw [hn] at hR
   have HX:=Lh hR.symm
   have HN:=Lh (fun W => rnext_err s q k hn hq hs W)
   have hk : (k != 0) = true:=by have:=nextT_bad hn;simp;omega
   clear hR hn
   go_enter Tryz.func108,Tryz.ntmps108
   go_wp2_with fail
   refine (HN.out _).mono ?_
   rintro e w1 ⟨rfl,hb1⟩
   have dz1 : w.heap.size < w1.heap.size:=by have:=hb1.size;simp at this;omega
   go_wp2
   refine bodyPost_ret (v:=.tuple #[.int .i64 0,.int .i64 0,.bool false]) (by simp [results,Tryz.results108,go_sem]) rfl ⟨by rw [HX.out];exact ⟨_,_,rfl⟩,bel⟩
 | good g =>
   rw [hn] at hR
   dsimp only at hR
   obtain ⟨p1,hp1⟩ : ∃ p1,q + (nextT (s.data.toList.drop q)).1 = p1:=⟨_,rfl⟩
   obtain ⟨q1,hq1⟩ : ∃ q1,p1 + g.len = q1:=⟨_,rfl⟩
   have HN:=Lh (fun W => rnext_tok s q p1 g hn hp1 hq hs W)
   rw [hq1] at HN
   have hq1s : q1 ≤ s.size:=by
     have:=(nextT_good hn).1
     rw [List.length_drop] at this
     have h2 : s.data.toList.length = s.size:=rfl
     omega
   have hd1 : (s.data.toList.drop q).drop ((nextT (s.data.toList.drop q)).1 + g.len) = s.data.toList.drop q1:=by rw [List.drop_drop];congr 1;omega
   rw [hd1] at hR
   clear hd1 hn hp1 hq1
   by_cases k1 : g.kind = 1
   · have t3 : (g.kind != 1) = false:=by simpa using k1
     by_cases k2 : g.n < 0
     · have t4 : decide (g.n < 0) = true:=by simpa using k2
       rw [if_pos (by omega)] at hR
       have HX:=Lh hR.symm
       clear hR k1 k2
       go_enter Tryz.func108,Tryz.ntmps108
       go_wp2_with fail
       refine (HN.out _).mono ?_
       rintro e w1 ⟨rfl,hb1⟩
       have dz1 : w.heap.size < w1.heap.size:=by have:=hb1.size;simp at this;omega
       go_wp2
       refine bodyPost_ret (v:=.tuple #[.int .i64 0,.int .i64 0,.bool false]) (by simp [results,Tryz.results108,go_sem]) rfl ⟨by rw [HX.out];exact ⟨_,_,rfl⟩,bel⟩
     have t4 : decide (g.n < 0) = false:=by simpa using k2
     by_cases k3 : 65535 < g.n
     · have t5 : decide (65535 < g.n) = true:=by simpa using k3
       rw [if_pos (by omega)] at hR
       have HX:=Lh hR.symm
       clear hR k1 k2 k3
       go_enter Tryz.func108,Tryz.ntmps108
       go_wp2_with fail
       refine (HN.out _).mono ?_
       rintro e w1 ⟨rfl,hb1⟩
       have dz1 : w.heap.size < w1.heap.size:=by have:=hb1.size;simp at this;omega
       go_wp2
       refine bodyPost_ret (v:=.tuple #[.int .i64 0,.int .i64 0,.bool false]) (by simp [results,Tryz.results108,go_sem]) rfl ⟨by rw [HX.out];exact ⟨_,_,rfl⟩,bel⟩
     have t5 : decide (65535 < g.n) = false:=by simpa using k3
     rw [if_neg (by omega)] at hR
     have hg0 : 0 ≤ g.n ∧ g.n ≤ 65535:=by omega
     clear k1 k2 k3
     cases hn2 : (nextT (s.data.toList.drop q1)).2 with
     | bad k =>
       rw [hn2] at hR
       have HX:=Lh hR.symm
       have HN2:=Lh (fun W => rnext_err s q1 k hn2 hq1s hs W)
       have hk : (k == 0) = false:=by have:=nextT_bad hn2;simp;omega
       clear hR hn2
       go_enter Tryz.func108,Tryz.ntmps108
       go_wp2_with fail
       refine (HN.out _).mono ?_
       rintro e w1 ⟨rfl,hb1⟩
       have dz1 : w.heap.size < w1.heap.size:=by have:=hb1.size;simp at this;omega
       go_wp2_with fail
       refine (HN2.out _).mono ?_
       rintro e w2 ⟨rfl,hb2⟩
       obtain ⟨e0,e1,e2,e3,e4,ef⟩:=five_at ((hb2.block _ (by simp)).trans (new_at w1 _))
       have dz2 : w1.heap.size < w2.heap.size:=by have:=hb2.size;simp at this;omega
       go_wp2_with fail
       go_quiet (fail)
       go_wp2
       refine bodyPost_ret (v:=.tuple #[.int .i64 g.n,.int .i64 0,.bool false]) (by simp [results,Tryz.results108,go_sem]) rfl ⟨by rw [HX.out];exact ⟨_,_,rfl⟩,bel⟩
     | good u =>
       rw [hn2] at hR
       dsimp only at hR
       obtain ⟨p2,hp2⟩ : ∃ p2,q1 + (nextT (s.data.toList.drop q1)).1 = p2:=⟨_,rfl⟩
       obtain ⟨q2,hq2⟩ : ∃ q2,p2 + u.len = q2:=⟨_,rfl⟩
       have HN2:=Lh (fun W => rnext_tok s q1 p2 u hn2 hp2 hq1s hs W)
       rw [hq2] at HN2
       have hq2s : q2 ≤ s.size:=by
         have:=(nextT_good hn2).1
         rw [List.length_drop] at this
         have h2 : s.data.toList.length = s.size:=rfl
         omega
       have hd2 : (s.data.toList.drop q1).drop ((nextT (s.data.toList.drop q1)).1 + u.len) = s.data.toList.drop q2:=by rw [List.drop_drop];congr 1;omega
       rw [hd2] at hR
       clear hd2 hn2 hp2 hq2
       by_cases k5 : u.kind = 5
       · have t6 : (u.kind == 5) = true:=by simpa using k5
         by_cases k6 : u.s = [82]
         · have HX:=Lh (show R = some (g.n,s.data.toList.drop q2) by rw [← hR,if_pos ⟨k5,k6⟩])
           have t7 : (u.s == [82]) = true:=by simpa using k6
           clear hR k5 k6
           go_enter Tryz.func108,Tryz.ntmps108
           go_wp2_with fail
           refine (HN.out _).mono ?_
           rintro e w1 ⟨rfl,hb1⟩
           have dz1 : w.heap.size < w1.heap.size:=by have:=hb1.size;simp at this;omega
           go_wp2_with fail
           refine (HN2.out _).mono ?_
           rintro e w2 ⟨rfl,hb2⟩
           obtain ⟨e0,e1,e2,e3,e4,ef⟩:=five_at ((hb2.block _ (by simp)).trans (new_at w1 _))
           have dz2 : w1.heap.size < w2.heap.size:=by have:=hb2.size;simp at this;omega
           go_wp2_with fail
           go_quiet (fail)
           go_wp2
           refine bodyPost_ret (v:=.tuple #[.int .i64 g.n,.int .i64 q2,.bool true]) (by simp [results,Tryz.results108,go_sem]) rfl ⟨by rw [HX.out];exact ⟨q2,hq2s,rfl,rfl⟩,bel⟩
         · have HX:=Lh (show R = none by rw [← hR,if_neg (fun h => k6 h.2)])
           have t7 : (u.s == [82]) = false:=by simpa using k6
           clear hR k5 k6
           go_enter Tryz.func108,Tryz.ntmps108
           go_wp2_with fail
           refine (HN.out _).mono ?_
           rintro e w1 ⟨rfl,hb1⟩
           have dz1 : w.heap.size < w1.heap.size:=by have:=hb1.size;simp at this;omega
           go_wp2_with fail
           refine (HN2.out _).mono ?_
           rintro e w2 ⟨rfl,hb2⟩
           obtain ⟨e0,e1,e2,e3,e4,ef⟩:=five_at ((hb2.block _ (by simp)).trans (new_at w1 _))
           have dz2 : w1.heap.size < w2.heap.size:=by have:=hb2.size;simp at this;omega
           go_wp2_with fail
           go_quiet (fail)
           go_wp2
           refine bodyPost_ret (v:=.tuple #[.int .i64 g.n,.int .i64 q2,.bool false]) (by simp [results,Tryz.results108,go_sem]) rfl ⟨by rw [HX.out];exact ⟨_,_,rfl⟩,bel⟩
       · have t6 : (u.kind == 5) = false:=by simpa using k5
         have HX:=Lh (show R = none by rw [← hR,if_neg (fun h => k5 h.1)])
         clear hR k5
         go_enter Tryz.func108,Tryz.ntmps108
         go_wp2_with fail
         refine (HN.out _).mono ?_
         rintro e w1 ⟨rfl,hb1⟩
         have dz1 : w.heap.size < w1.heap.size:=by have:=hb1.size;simp at this;omega
         go_wp2_with fail
         refine (HN2.out _).mono ?_
         rintro e w2 ⟨rfl,hb2⟩
         obtain ⟨e0,e1,e2,e3,e4,ef⟩:=five_at ((hb2.block _ (by simp)).trans (new_at w1 _))
         have dz2 : w1.heap.size < w2.heap.size:=by have:=hb2.size;simp at this;omega
         go_wp2_with fail
         go_quiet (fail)
         go_wp2
         refine bodyPost_ret (v:=.tuple #[.int .i64 g.n,.int .i64 q2,.bool false]) (by simp [results,Tryz.results108,go_sem]) rfl ⟨by rw [HX.out];exact ⟨_,_,rfl⟩,bel⟩
   · have t3 : (g.kind != 1) = true:=by simpa using k1
     rw [if_pos (by omega)] at hR
     have HX:=Lh hR.symm
     clear hR k1
     go_enter Tryz.func108,Tryz.ntmps108
     go_wp2_with fail
     refine (HN.out _).mono ?_
     rintro e w1 ⟨rfl,hb1⟩
     have dz1 : w.heap.size < w1.heap.size:=by have:=hb1.size;simp at this;omega
     go_wp2
     refine bodyPost_ret (v:=.tuple #[.int .i64 0,.int .i64 0,.bool false]) (by simp [results,Tryz.results108,go_sem]) rfl ⟨by rw [HX.out];exact ⟨_,_,rfl⟩,bel⟩
theorem objAt_out {B n d : Nat} {w2 w3 : World} {cs : List Value} {o : Ob} (h : ObjAt (fun b => n ≤ b) d w2 cs o) (hB : B ≤ n) (hk : ∀ b,n ≤ b → w3.heap[b]? = w2.heap[b]?) : ObjAt (fun b => B ≤ b) d w3 cs o :=
 (ObjAt.kept (fun b hb => hk b hb) d h).weaken (fun b hb _ => Nat.le_trans hB hb) d
theorem six_at {w : World} {b : Nat} {t : TypeId} {v0 v1 v2 v3 v4 v5 : Value} (h : w.heap[b]? = some (.cells #[v0, v1, v2, v3, v4, v5] t (0, 0))) :
   w.cell? ⟨b,0,none⟩ = some v0 ∧ w.cell? ⟨b,1,none⟩ = some v1 ∧ w.cell? ⟨b,2,none⟩ = some v2 ∧ w.cell? ⟨b,3,none⟩ = some v3 ∧ w.cell? ⟨b,4,none⟩ = some v4 ∧ w.cell? ⟨b,5,none⟩ = some v5 ∧ ∀ o,w.frozen? ⟨b,o,none⟩ = false:=by
 simp [World.cell?,World.frozen?,h]
def objD (d : Nat) (l : L) : Res (Ob × L) :=
 match nextS l with
 | .bad e => .bad e
 | .good x => objS d x.1 x.2
def ROut (s : ByteArray) (d : Nat) (w : World) (R : Res (Ob × L)) (e : Ending) (w' : World) : Prop :=
 match R with
 | .bad k => e = .returned (.tuple #[.agg #[.int .i64 0,.int .i64 0,.int .i64 0,.string ⟨#[]⟩,.slice none 0 0,.slice none 0 0],.int .i64 0,.int .i64 k]) ∧ Below w.heap.size w w'
 | .good (o, rest) => ∃ (p1 : Option Addr) (n1 c1 : Nat) (p2 : Option Addr) (n2 c2 z : Nat), e = .returned (.tuple #[.agg #[.int .i64 o.kind, .int .i64 o.n, .int .i64 o.g, .string ⟨o.s.toArray⟩, .slice p1 n1 c1, .slice p2 n2 c2], .int .i64 z, .int .i64 0]) ∧ z ≤ s.size ∧ s.data.toList.drop z = rest ∧
     ObjAt (fun b => w.heap.size ≤ b) (d + 1) w' (objCells o.kind o.n o.g o.s (.slice p1 n1 c1) (.slice p2 n2 c2)) o ∧ Below w.heap.size w w'
def RObjC (s : ByteArray) (d : Nat) : Prop:=∀ (a : Nat) (w : World),a ≤ s.size → (∃ z,objD d (s.data.toList.drop a) = .good z) →
 Calls Tryz.prog 71 #[.string s,.int .i64 a,.int .i64 (25 - (d : Int))] w (ROut s d w (objD d (s.data.toList.drop a)))
def arrO : Res (List Ob × L) → Res (Ob × L)
 | .bad e => .bad e
 | .good x => .good (.mk 6 0 0 [] [] x.1,x.2)
def RArrC (s : ByteArray) (d : Nat) : Prop:=∀ (a : Nat) (w : World),a ≤ s.size → (∃ z,arrS (objS d) d ((s.data.toList.drop a).length + 1) (s.data.toList.drop a) [] = .good z) →
 Calls Tryz.prog 114 #[.string s,.int .i64 a,.int .i64 (24 - (d : Int))] w (ROut s (d + 1) w (arrO (arrS (objS d) d ((s.data.toList.drop a).length + 1) (s.data.toList.drop a) [])))
def dictO : Res (List (L × Ob) × L) → Res (Ob × L)
 | .bad e => .bad e
 | .good x => .good (mkDict x.1,x.2)
def RDictC (s : ByteArray) (d : Nat) : Prop:=∀ (a : Nat) (w : World),a ≤ s.size → (∃ z,dictS (objS d) ((s.data.toList.drop a).length + 1) (s.data.toList.drop a) [] = .good z) →
 Calls Tryz.prog 115 #[.string s,.int .i64 a,.int .i64 (24 - (d : Int))] w (ROut s (d + 1) w (dictO (dictS (objS d) ((s.data.toList.drop a).length + 1) (s.data.toList.drop a) [])))
theorem rint_in (n : Int) (w : World) : Calls Tryz.prog 26 #[.int .i64 n] w fun e w' => e = .returned (obV 2 n 0 []) ∧ Below w.heap.size w w':=by
 go_enter Tryz.func26,Tryz.ntmps26
 go_wp2
 refine bodyPost_ret (v:=obV 2 n 0 []) (by simp [results,Tryz.results26,go_sem,obV]) rfl ⟨rfl,bel⟩
theorem rreal_in (n : Int) (w : World) : Calls Tryz.prog 110 #[.int .i64 n] w fun e w' => e = .returned (obV 3 n 0 []) ∧ Below w.heap.size w w':=by
 go_enter Tryz.func110,Tryz.ntmps110
 go_wp2
 refine bodyPost_ret (v:=obV 3 n 0 []) (by simp [results,Tryz.results110,go_sem,obV]) rfl ⟨rfl,bel⟩
theorem rstr_in (x : L) (w : World) : Calls Tryz.prog 111 #[.string ⟨x.toArray⟩] w fun e w' => e = .returned (obV 4 0 0 x) ∧ Below w.heap.size w w':=by
 go_enter Tryz.func111,Tryz.ntmps111
 go_wp2
 refine bodyPost_ret (v:=obV 4 0 0 x) (by simp [results,Tryz.results111,go_sem,obV]) rfl ⟨rfl,bel⟩
theorem rkey_in (x : L) (w : World) : Calls Tryz.prog 112 #[.string ⟨x.toArray⟩] w fun e w' => e = .returned (obV 5 0 0 x) ∧ Below w.heap.size w w':=by
 go_enter Tryz.func112,Tryz.ntmps112
 go_wp2
 refine bodyPost_ret (v:=obV 5 0 0 x) (by simp [results,Tryz.results112,go_sem,obV]) rfl ⟨rfl,bel⟩
theorem rbool_in (b : Bool) (w : World) : Calls Tryz.prog 113 #[.bool b] w fun e w' => e = .returned (obV 1 (if b then 1 else 0) 0 []) ∧ Below w.heap.size w w':=by
 cases b
 · go_enter Tryz.func113,Tryz.ntmps113
   go_wp2
   refine bodyPost_ret (v:=obV 1 0 0 []) (by simp [results,Tryz.results113,go_sem,obV]) rfl ⟨rfl,bel⟩
 · go_enter Tryz.func113,Tryz.ntmps113
   go_wp2
   refine bodyPost_ret (v:=obV 1 1 0 []) (by simp [results,Tryz.results113,go_sem,obV]) rfl ⟨rfl,bel⟩
theorem rref_in (n g : Int) (w : World) : Calls Tryz.prog 109 #[.int .i64 n,.int .i64 g] w fun e w' => e = .returned (obV 8 n g []) ∧ Below w.heap.size w w':=by
 go_enter Tryz.func109,Tryz.ntmps109
 go_wp2
 refine bodyPost_ret (v:=obV 8 n g []) (by simp [results,Tryz.results109,go_sem,obV]) rfl ⟨rfl,bel⟩
theorem rleaf {s : ByteArray} {d a : Nat} {w w' : World} {k n g : Int} {x : L} {e : Ending} (he : e = .returned (.tuple #[obV k n g x, .int .i64 a, .int .i64 0])) (hb : Below w.heap.size w w') (ha : a ≤ s.size) :
   ROut s d w (.good (.mk k n g x [] [],s.data.toList.drop a)) e w' :=
 ⟨_,_,_,_,_,_,a,he,ha,rfl,obV_at _ d w' k n g x,hb⟩
theorem robj_lex (s : ByteArray) (d a : Nat) (k : Int) (dp : Int) (ha : a ≤ s.size) (hs : s.size ≤ 1048576) (h : nextS (s.data.toList.drop a) = .bad k) (w : World) :
   Calls Tryz.prog 71 #[.string s,.int .i64 a,.int .i64 dp] w (ROut s d w (.bad k)):=by
 rcases nextS_bad h with h1 | ⟨rfl,h1⟩
 · have HN:=Lh (fun W => rnext_err s a k h1 ha (by omega) W)
   have hk : (k != 0) = true:=by have:=nextT_bad h1;simp;omega
   clear h h1
   go_enter Tryz.func71,Tryz.ntmps71
   go_wp2_with fail
   refine (HN.out _).mono ?_
   rintro e w1 ⟨rfl,hb1⟩
   have G0 : w1.heap[w.heap.size]? = some (.cells #[.int .i64 0,.int .i64 0,.int .i64 0,.string ⟨#[]⟩,.slice none 0 0,.slice none 0 0] 26 (0,0)):=(hb1.block _ (by simp)).trans (new_at w _)
   have l1 : w.heap.size < w1.heap.size:=lt_of_block G0
   have hbw : Below w.heap.size w w1:=bel
   obtain ⟨a0,a1,a2,a3,a4,a5,af⟩:=six_at G0
   go_wp2
   refine bodyPost_ret (v:=.tuple #[.agg #[.int .i64 0,.int .i64 0,.int .i64 0,.string ⟨#[]⟩,.slice none 0 0,.slice none 0 0],.int .i64 0,.int .i64 k]) (by simp [results,Tryz.results71,go_sem,a0,a1,a2,a3,a4,a5,af,l1]) rfl ⟨rfl,bel⟩
 · have HN:=Lh (fun W => rnext_tok s a _ _ h1 rfl ha (by omega) W)
   clear h h1
   go_enter Tryz.func71,Tryz.ntmps71
   go_wp2_with fail
   refine (HN.out _).mono ?_
   rintro e w1 ⟨rfl,hb1⟩
   have G0 : w1.heap[w.heap.size]? = some (.cells #[.int .i64 0,.int .i64 0,.int .i64 0,.string ⟨#[]⟩,.slice none 0 0,.slice none 0 0] 26 (0,0)):=(hb1.block _ (by simp)).trans (new_at w _)
   have l1 : w.heap.size < w1.heap.size:=lt_of_block G0
   have hbw : Below w.heap.size w w1:=bel
   obtain ⟨a0,a1,a2,a3,a4,a5,af⟩:=six_at G0
   go_wp2
   refine bodyPost_ret (v:=.tuple #[.agg #[.int .i64 0,.int .i64 0,.int .i64 0,.string ⟨#[]⟩,.slice none 0 0,.slice none 0 0],.int .i64 0,.int .i64 4]) (by simp [results,Tryz.results71,go_sem,a0,a1,a2,a3,a4,a5,af,l1]) rfl ⟨rfl,bel⟩
theorem robj_form (s : ByteArray) (d a p q : Nat) (t : Tok) (dp : Int) (ha : a ≤ s.size) (hs : s.size ≤ 1048576) (hq : q ≤ s.size) (h : (nextT (s.data.toList.drop a)).2 = .good t) (hp : a + (nextT (s.data.toList.drop a)).1 = p) (hpq : p + t.len = q) (hk0 : (t.kind == 0) = false) (hb : beginsS t = false) (w : World) :
   Calls Tryz.prog 71 #[.string s,.int .i64 a,.int .i64 dp] w (ROut s d w (.bad 3)):=by
 have HN:=Lh (fun W => rnext_tok s a p t h hp ha (by omega) W)
 rw [hpq] at HN
 have HB:=Lh (fun W => rbegins_tok t p q false hb (by simpa using hk0) W)
 clear h hp hpq hb
 go_enter Tryz.func71,Tryz.ntmps71
 go_wp2_with fail
 refine (HN.out _).mono ?_
 rintro e w1 ⟨rfl,hb1⟩
 have G0 : w1.heap[w.heap.size]? = some (.cells #[.int .i64 0,.int .i64 0,.int .i64 0,.string ⟨#[]⟩,.slice none 0 0,.slice none 0 0] 26 (0,0)):=(hb1.block _ (by simp)).trans (new_at w _)
 have l1 : w.heap.size < w1.heap.size:=lt_of_block G0
 have hbw : Below w.heap.size w w1:=bel
 go_wp2_with fail
 refine (HB.out _).mono ?_
 rintro e w2 ⟨rfl,hb2⟩
 have G2 : w2.heap[w.heap.size]? = some (.cells #[.int .i64 0,.int .i64 0,.int .i64 0,.string ⟨#[]⟩,.slice none 0 0,.slice none 0 0] 26 (0,0)):=(hb2.block _ (by simp;omega)).trans ((Below.heap_alloc _ _ _ l1).trans G0)
 have GT : w2.heap[w1.heap.size]? = some (.cells #[.int .i64 t.kind,.int .i64 p,.int .i64 q,.int .i64 t.n,.string ⟨t.s.toArray⟩] 70 (0,0)):=(hb2.block _ (by simp)).trans (new_at w1 _)
 have l2 : w.heap.size < w2.heap.size:=lt_of_block G2
 have lt2 : w1.heap.size < w2.heap.size:=lt_of_block GT
 have hbw2 : Below w.heap.size w w2:=bel
 obtain ⟨b0,b1,b2,b3,b4,bf⟩:=five_at GT
 obtain ⟨tt,htt⟩ : ∃ tt,w1.heap.size = tt:=⟨_,rfl⟩
 rw [htt] at GT lt2 b0 b1 b2 b3 b4 bf
 rw [htt]
 have ltt : w.heap.size < tt:=by omega
 have ne1 : ¬ tt = w.heap.size:=by omega
 have ne2 : ¬ w.heap.size = tt:=by omega
 clear hb1 hb2 hbw G0 l1 htt
 obtain ⟨a0,a1,a2,a3,a4,a5,af⟩:=six_at G2
 go_wp2
 refine bodyPost_ret (v:=.tuple #[.agg #[.int .i64 0,.int .i64 0,.int .i64 0,.string ⟨#[]⟩,.slice none 0 0,.slice none 0 0],.int .i64 0,.int .i64 3]) (by simp [results,Tryz.results71,go_sem,a0,a1,a2,a3,a4,a5,af,l2]) rfl ⟨rfl,by (have hb:=hbw2;exact bel)⟩
theorem robj_deep (s : ByteArray) (d a p q : Nat) (t : Tok) (dp : Int) (ha : a ≤ s.size) (hs : s.size ≤ 1048576) (hq : q ≤ s.size) (h : (nextT (s.data.toList.drop a)).2 = .good t) (hp : a + (nextT (s.data.toList.drop a)).1 = p) (hpq : p + t.len = q) (hk0 : (t.kind == 0) = false) (hb : beginsS t = true) (hd : 24 < dp) (w : World) :
   Calls Tryz.prog 71 #[.string s,.int .i64 a,.int .i64 dp] w (ROut s d w (.bad 7)):=by
 have HN:=Lh (fun W => rnext_tok s a p t h hp ha (by omega) W)
 rw [hpq] at HN
 have HB:=Lh (fun W => rbegins_tok t p q true hb (by simpa using hk0) W)
 clear h hp hpq hb
 go_enter Tryz.func71,Tryz.ntmps71
 go_wp2_with fail
 refine (HN.out _).mono ?_
 rintro e w1 ⟨rfl,hb1⟩
 have G0 : w1.heap[w.heap.size]? = some (.cells #[.int .i64 0,.int .i64 0,.int .i64 0,.string ⟨#[]⟩,.slice none 0 0,.slice none 0 0] 26 (0,0)):=(hb1.block _ (by simp)).trans (new_at w _)
 have l1 : w.heap.size < w1.heap.size:=lt_of_block G0
 have hbw : Below w.heap.size w w1:=bel
 go_wp2_with fail
 refine (HB.out _).mono ?_
 rintro e w2 ⟨rfl,hb2⟩
 have G2 : w2.heap[w.heap.size]? = some (.cells #[.int .i64 0,.int .i64 0,.int .i64 0,.string ⟨#[]⟩,.slice none 0 0,.slice none 0 0] 26 (0,0)):=(hb2.block _ (by simp;omega)).trans ((Below.heap_alloc _ _ _ l1).trans G0)
 have GT : w2.heap[w1.heap.size]? = some (.cells #[.int .i64 t.kind,.int .i64 p,.int .i64 q,.int .i64 t.n,.string ⟨t.s.toArray⟩] 70 (0,0)):=(hb2.block _ (by simp)).trans (new_at w1 _)
 have l2 : w.heap.size < w2.heap.size:=lt_of_block G2
 have lt2 : w1.heap.size < w2.heap.size:=lt_of_block GT
 have hbw2 : Below w.heap.size w w2:=bel
 obtain ⟨b0,b1,b2,b3,b4,bf⟩:=five_at GT
 obtain ⟨tt,htt⟩ : ∃ tt,w1.heap.size = tt:=⟨_,rfl⟩
 rw [htt] at GT lt2 b0 b1 b2 b3 b4 bf
 rw [htt]
 have ltt : w.heap.size < tt:=by omega
 have ne1 : ¬ tt = w.heap.size:=by omega
 have ne2 : ¬ w.heap.size = tt:=by omega
 clear hb1 hb2 hbw G0 l1 htt
 obtain ⟨a0,a1,a2,a3,a4,a5,af⟩:=six_at G2
 go_wp2
 refine bodyPost_ret (v:=.tuple #[.agg #[.int .i64 0,.int .i64 0,.int .i64 0,.string ⟨#[]⟩,.slice none 0 0,.slice none 0 0],.int .i64 0,.int .i64 7]) (by simp [results,Tryz.results71,go_sem,a0,a1,a2,a3,a4,a5,af,l2]) rfl ⟨rfl,by (have hb:=hbw2;exact bel)⟩
theorem robj_real (s : ByteArray) (d a p q : Nat) (t : Tok) (dp : Int) (ha : a ≤ s.size) (hs : s.size ≤ 1048576) (hq : q ≤ s.size) (h : (nextT (s.data.toList.drop a)).2 = .good t) (hp : a + (nextT (s.data.toList.drop a)).1 = p) (hpq : p + t.len = q) (hk0 : (t.kind == 0) = false) (hb : beginsS t = true) (hd : dp ≤ 24) (hk : t.kind = 2) (w : World) :
   Calls Tryz.prog 71 #[.string s,.int .i64 a,.int .i64 dp] w (ROut s d w (.good (.real t.n,s.data.toList.drop q))):=by
 have k1 : (t.kind == 1) = false:=by simp [hk]
 have k2 : (t.kind == 2) = true:=by simp [hk]
 clear hk
 have HN:=Lh (fun W => rnext_tok s a p t h hp ha (by omega) W)
 rw [hpq] at HN
 have HB:=Lh (fun W => rbegins_tok t p q true hb (by simpa using hk0) W)
 clear h hp hpq hb
 go_enter Tryz.func71,Tryz.ntmps71
 go_wp2_with fail
 refine (HN.out _).mono ?_
 rintro e w1 ⟨rfl,hb1⟩
 have G0 : w1.heap[w.heap.size]? = some (.cells #[.int .i64 0,.int .i64 0,.int .i64 0,.string ⟨#[]⟩,.slice none 0 0,.slice none 0 0] 26 (0,0)):=(hb1.block _ (by simp)).trans (new_at w _)
 have l1 : w.heap.size < w1.heap.size:=lt_of_block G0
 have hbw : Below w.heap.size w w1:=bel
 go_wp2_with fail
 refine (HB.out _).mono ?_
 rintro e w2 ⟨rfl,hb2⟩
 have G2 : w2.heap[w.heap.size]? = some (.cells #[.int .i64 0,.int .i64 0,.int .i64 0,.string ⟨#[]⟩,.slice none 0 0,.slice none 0 0] 26 (0,0)):=(hb2.block _ (by simp;omega)).trans ((Below.heap_alloc _ _ _ l1).trans G0)
 have GT : w2.heap[w1.heap.size]? = some (.cells #[.int .i64 t.kind,.int .i64 p,.int .i64 q,.int .i64 t.n,.string ⟨t.s.toArray⟩] 70 (0,0)):=(hb2.block _ (by simp)).trans (new_at w1 _)
 have l2 : w.heap.size < w2.heap.size:=lt_of_block G2
 have lt2 : w1.heap.size < w2.heap.size:=lt_of_block GT
 have hbw2 : Below w.heap.size w w2:=bel
 obtain ⟨b0,b1,b2,b3,b4,bf⟩:=five_at GT
 obtain ⟨tt,htt⟩ : ∃ tt,w1.heap.size = tt:=⟨_,rfl⟩
 rw [htt] at GT lt2 b0 b1 b2 b3 b4 bf
 rw [htt]
 have ltt : w.heap.size < tt:=by omega
 have ne1 : ¬ tt = w.heap.size:=by omega
 have ne2 : ¬ w.heap.size = tt:=by omega
 clear hb1 hb2 hbw G0 l1 htt
 go_wp2_with fail
 go_region_held3 (fun w' => w'.cell? ⟨tt,2,none⟩ = some (.int .i64 q) ∧ w'.cell? ⟨tt,3,none⟩ = some (.int .i64 t.n)) (go_keep) ((go_at_call 110;refine (rreal_in _ _).mono ?_;rintro e w4 ⟨rfl,hb4⟩;obtain ⟨y0,y1,y2,y3,y4,y5,yf⟩:=six_at ((hb4.block _ l2).trans G2);obtain ⟨x0,x1,x2,x3,x4,xf⟩:=five_at ((hb4.block _ lt2).trans GT);have l4 : w.heap.size < w4.heap.size:=Nat.lt_of_lt_of_le l2 hb4.size;unfold obV))
 all_goals go_wp2
 all_goals refine bodyPost_ret (v:=.tuple #[obV 3 t.n 0 [],.int .i64 q,.int .i64 0]) (by simp [results,Tryz.results71,go_sem,obV,y0,y1,y2,y3,y4,y5,yf,l4]) rfl ?_
 all_goals exact rleaf rfl (by have hb:=hbw2;exact bel) hq
theorem robj_str (s : ByteArray) (d a p q : Nat) (t : Tok) (dp : Int) (ha : a ≤ s.size) (hs : s.size ≤ 1048576) (hq : q ≤ s.size) (h : (nextT (s.data.toList.drop a)).2 = .good t) (hp : a + (nextT (s.data.toList.drop a)).1 = p) (hpq : p + t.len = q) (hk0 : (t.kind == 0) = false) (hb : beginsS t = true) (hd : dp ≤ 24) (hk : t.kind = 3) (w : World) :
   Calls Tryz.prog 71 #[.string s,.int .i64 a,.int .i64 dp] w (ROut s d w (.good (.str t.s,s.data.toList.drop q))):=by
 have k1 : (t.kind == 1) = false:=by simp [hk]
 have k2 : (t.kind == 2) = false:=by simp [hk]
 have k3 : (t.kind == 3) = true:=by simp [hk]
 clear hk
 have HN:=Lh (fun W => rnext_tok s a p t h hp ha (by omega) W)
 rw [hpq] at HN
 have HB:=Lh (fun W => rbegins_tok t p q true hb (by simpa using hk0) W)
 clear h hp hpq hb
 go_enter Tryz.func71,Tryz.ntmps71
 go_wp2_with fail
 refine (HN.out _).mono ?_
 rintro e w1 ⟨rfl,hb1⟩
 have G0 : w1.heap[w.heap.size]? = some (.cells #[.int .i64 0,.int .i64 0,.int .i64 0,.string ⟨#[]⟩,.slice none 0 0,.slice none 0 0] 26 (0,0)):=(hb1.block _ (by simp)).trans (new_at w _)
 have l1 : w.heap.size < w1.heap.size:=lt_of_block G0
 have hbw : Below w.heap.size w w1:=bel
 go_wp2_with fail
 refine (HB.out _).mono ?_
 rintro e w2 ⟨rfl,hb2⟩
 have G2 : w2.heap[w.heap.size]? = some (.cells #[.int .i64 0,.int .i64 0,.int .i64 0,.string ⟨#[]⟩,.slice none 0 0,.slice none 0 0] 26 (0,0)):=(hb2.block _ (by simp;omega)).trans ((Below.heap_alloc _ _ _ l1).trans G0)
 have GT : w2.heap[w1.heap.size]? = some (.cells #[.int .i64 t.kind,.int .i64 p,.int .i64 q,.int .i64 t.n,.string ⟨t.s.toArray⟩] 70 (0,0)):=(hb2.block _ (by simp)).trans (new_at w1 _)
 have l2 : w.heap.size < w2.heap.size:=lt_of_block G2
 have lt2 : w1.heap.size < w2.heap.size:=lt_of_block GT
 have hbw2 : Below w.heap.size w w2:=bel
 obtain ⟨b0,b1,b2,b3,b4,bf⟩:=five_at GT
 obtain ⟨tt,htt⟩ : ∃ tt,w1.heap.size = tt:=⟨_,rfl⟩
 rw [htt] at GT lt2 b0 b1 b2 b3 b4 bf
 rw [htt]
 have ltt : w.heap.size < tt:=by omega
 have ne1 : ¬ tt = w.heap.size:=by omega
 have ne2 : ¬ w.heap.size = tt:=by omega
 clear hb1 hb2 hbw G0 l1 htt
 go_wp2_with fail
 go_region_held3 (fun w' => w'.cell? ⟨tt,2,none⟩ = some (.int .i64 q) ∧ w'.cell? ⟨tt,4,none⟩ = some (.string ⟨t.s.toArray⟩)) (go_keep) ((go_at_call 111;refine (rstr_in _ _).mono ?_;rintro e w4 ⟨rfl,hb4⟩;obtain ⟨y0,y1,y2,y3,y4,y5,yf⟩:=six_at ((hb4.block _ l2).trans G2);obtain ⟨x0,x1,x2,x3,x4,xf⟩:=five_at ((hb4.block _ lt2).trans GT);have l4 : w.heap.size < w4.heap.size:=Nat.lt_of_lt_of_le l2 hb4.size;unfold obV))
 all_goals go_wp2
 all_goals refine bodyPost_ret (v:=.tuple #[obV 4 0 0 t.s,.int .i64 q,.int .i64 0]) (by simp [results,Tryz.results71,go_sem,obV,y0,y1,y2,y3,y4,y5,yf,l4]) rfl ?_
 all_goals exact rleaf rfl (by have hb:=hbw2;exact bel) hq
theorem robj_name (s : ByteArray) (d a p q : Nat) (t : Tok) (dp : Int) (ha : a ≤ s.size) (hs : s.size ≤ 1048576) (hq : q ≤ s.size) (h : (nextT (s.data.toList.drop a)).2 = .good t) (hp : a + (nextT (s.data.toList.drop a)).1 = p) (hpq : p + t.len = q) (hk0 : (t.kind == 0) = false) (hb : beginsS t = true) (hd : dp ≤ 24) (hk : t.kind = 4) (w : World) :
   Calls Tryz.prog 71 #[.string s,.int .i64 a,.int .i64 dp] w (ROut s d w (.good (.name t.s,s.data.toList.drop q))):=by
 have k1 : (t.kind == 1) = false:=by simp [hk]
 have k2 : (t.kind == 2) = false:=by simp [hk]
 have k3 : (t.kind == 3) = false:=by simp [hk]
 have k4 : (t.kind == 4) = true:=by simp [hk]
 clear hk
 have HN:=Lh (fun W => rnext_tok s a p t h hp ha (by omega) W)
 rw [hpq] at HN
 have HB:=Lh (fun W => rbegins_tok t p q true hb (by simpa using hk0) W)
 clear h hp hpq hb
 go_enter Tryz.func71,Tryz.ntmps71
 go_wp2_with fail
 refine (HN.out _).mono ?_
 rintro e w1 ⟨rfl,hb1⟩
 have G0 : w1.heap[w.heap.size]? = some (.cells #[.int .i64 0,.int .i64 0,.int .i64 0,.string ⟨#[]⟩,.slice none 0 0,.slice none 0 0] 26 (0,0)):=(hb1.block _ (by simp)).trans (new_at w _)
 have l1 : w.heap.size < w1.heap.size:=lt_of_block G0
 have hbw : Below w.heap.size w w1:=bel
 go_wp2_with fail
 refine (HB.out _).mono ?_
 rintro e w2 ⟨rfl,hb2⟩
 have G2 : w2.heap[w.heap.size]? = some (.cells #[.int .i64 0,.int .i64 0,.int .i64 0,.string ⟨#[]⟩,.slice none 0 0,.slice none 0 0] 26 (0,0)):=(hb2.block _ (by simp;omega)).trans ((Below.heap_alloc _ _ _ l1).trans G0)
 have GT : w2.heap[w1.heap.size]? = some (.cells #[.int .i64 t.kind,.int .i64 p,.int .i64 q,.int .i64 t.n,.string ⟨t.s.toArray⟩] 70 (0,0)):=(hb2.block _ (by simp)).trans (new_at w1 _)
 have l2 : w.heap.size < w2.heap.size:=lt_of_block G2
 have lt2 : w1.heap.size < w2.heap.size:=lt_of_block GT
 have hbw2 : Below w.heap.size w w2:=bel
 obtain ⟨b0,b1,b2,b3,b4,bf⟩:=five_at GT
 obtain ⟨tt,htt⟩ : ∃ tt,w1.heap.size = tt:=⟨_,rfl⟩
 rw [htt] at GT lt2 b0 b1 b2 b3 b4 bf
 rw [htt]
 have ltt : w.heap.size < tt:=by omega
 have ne1 : ¬ tt = w.heap.size:=by omega
 have ne2 : ¬ w.heap.size = tt:=by omega
 clear hb1 hb2 hbw G0 l1 htt
 go_wp2_with fail
 go_region_held3 (fun w' => w'.cell? ⟨tt,2,none⟩ = some (.int .i64 q) ∧ w'.cell? ⟨tt,4,none⟩ = some (.string ⟨t.s.toArray⟩)) (go_keep) ((go_at_call 112;refine (rkey_in _ _).mono ?_;rintro e w4 ⟨rfl,hb4⟩;obtain ⟨y0,y1,y2,y3,y4,y5,yf⟩:=six_at ((hb4.block _ l2).trans G2);obtain ⟨x0,x1,x2,x3,x4,xf⟩:=five_at ((hb4.block _ lt2).trans GT);have l4 : w.heap.size < w4.heap.size:=Nat.lt_of_lt_of_le l2 hb4.size;unfold obV))
 all_goals go_wp2
 all_goals refine bodyPost_ret (v:=.tuple #[obV 5 0 0 t.s,.int .i64 q,.int .i64 0]) (by simp [results,Tryz.results71,go_sem,obV,y0,y1,y2,y3,y4,y5,yf,l4]) rfl ?_
 all_goals exact rleaf rfl (by have hb:=hbw2;exact bel) hq
theorem robj_bool (s : ByteArray) (d a p q : Nat) (t : Tok) (dp : Int) (ha : a ≤ s.size) (hs : s.size ≤ 1048576) (hq : q ≤ s.size) (h : (nextT (s.data.toList.drop a)).2 = .good t) (hp : a + (nextT (s.data.toList.drop a)).1 = p) (hpq : p + t.len = q) (hk0 : (t.kind == 0) = false) (hb : beginsS t = true) (hd : dp ≤ 24) (hk : t.kind = 5) (hn : ¬ t.s = wNull) (w : World) :
   Calls Tryz.prog 71 #[.string s,.int .i64 a,.int .i64 dp] w (ROut s d w (.good (.bool (t.s == wTrue),s.data.toList.drop q))):=by
 have k1 : (t.kind == 1) = false:=by simp [hk]
 have k2 : (t.kind == 2) = false:=by simp [hk]
 have k3 : (t.kind == 3) = false:=by simp [hk]
 have k4 : (t.kind == 4) = false:=by simp [hk]
 have k5 : (t.kind == 5) = true:=by simp [hk]
 have k7 : (t.s == [110,117,108,108]) = false:=by simpa [wNull] using hn
 obtain ⟨bb,hbb⟩ : ∃ bb,(t.s == wTrue) = bb:=⟨_,rfl⟩
 rw [hbb]
 have k8 : (t.s == [116,114,117,101]) = bb:=hbb
 have hbl:=fun W => rbool_in bb W
 unfold Ob.bool
 obtain ⟨nn,hnn⟩ : ∃ n : Int,(if bb = true then 1 else 0) = n:=⟨_,rfl⟩
 rw [hnn] at hbl
 rw [hnn]
 have HBL:=Lh hbl
 clear hk hn hbb hbl hnn
 have HN:=Lh (fun W => rnext_tok s a p t h hp ha (by omega) W)
 rw [hpq] at HN
 have HB:=Lh (fun W => rbegins_tok t p q true hb (by simpa using hk0) W)
 clear h hp hpq hb
 go_enter Tryz.func71,Tryz.ntmps71
 go_wp2_with fail
 refine (HN.out _).mono ?_
 rintro e w1 ⟨rfl,hb1⟩
 have G0 : w1.heap[w.heap.size]? = some (.cells #[.int .i64 0,.int .i64 0,.int .i64 0,.string ⟨#[]⟩,.slice none 0 0,.slice none 0 0] 26 (0,0)):=(hb1.block _ (by simp)).trans (new_at w _)
 have l1 : w.heap.size < w1.heap.size:=lt_of_block G0
 have hbw : Below w.heap.size w w1:=bel
 go_wp2_with fail
 refine (HB.out _).mono ?_
 rintro e w2 ⟨rfl,hb2⟩
 have G2 : w2.heap[w.heap.size]? = some (.cells #[.int .i64 0,.int .i64 0,.int .i64 0,.string ⟨#[]⟩,.slice none 0 0,.slice none 0 0] 26 (0,0)):=(hb2.block _ (by simp;omega)).trans ((Below.heap_alloc _ _ _ l1).trans G0)
 have GT : w2.heap[w1.heap.size]? = some (.cells #[.int .i64 t.kind,.int .i64 p,.int .i64 q,.int .i64 t.n,.string ⟨t.s.toArray⟩] 70 (0,0)):=(hb2.block _ (by simp)).trans (new_at w1 _)
 have l2 : w.heap.size < w2.heap.size:=lt_of_block G2
 have lt2 : w1.heap.size < w2.heap.size:=lt_of_block GT
 have hbw2 : Below w.heap.size w w2:=bel
 obtain ⟨b0,b1,b2,b3,b4,bf⟩:=five_at GT
 obtain ⟨tt,htt⟩ : ∃ tt,w1.heap.size = tt:=⟨_,rfl⟩
 rw [htt] at GT lt2 b0 b1 b2 b3 b4 bf
 rw [htt]
 have ltt : w.heap.size < tt:=by omega
 have ne1 : ¬ tt = w.heap.size:=by omega
 have ne2 : ¬ w.heap.size = tt:=by omega
 clear hb1 hb2 hbw G0 l1 htt
 go_wp2_with fail
 go_region_held3 (fun w' => w'.cell? ⟨tt,2,none⟩ = some (.int .i64 q) ∧ w'.cell? ⟨tt,4,none⟩ = some (.string ⟨t.s.toArray⟩)) (go_keep) ((go_at_call 113;refine (HBL.out _).mono ?_;rintro e w4 ⟨rfl,hb4⟩;obtain ⟨y0,y1,y2,y3,y4,y5,yf⟩:=six_at ((hb4.block _ l2).trans G2);obtain ⟨x0,x1,x2,x3,x4,xf⟩:=five_at ((hb4.block _ lt2).trans GT);have l4 : w.heap.size < w4.heap.size:=Nat.lt_of_lt_of_le l2 hb4.size;unfold obV))
 all_goals go_wp2
 all_goals refine bodyPost_ret (v:=.tuple #[obV 1 nn 0 [],.int .i64 q,.int .i64 0]) (by simp [results,Tryz.results71,go_sem,obV,y0,y1,y2,y3,y4,y5,yf,l4]) rfl ?_
 all_goals exact rleaf rfl (by have hb:=hbw2;exact bel) hq
theorem robj_null (s : ByteArray) (d a p q : Nat) (t : Tok) (dp : Int) (ha : a ≤ s.size) (hs : s.size ≤ 1048576) (hq : q ≤ s.size) (h : (nextT (s.data.toList.drop a)).2 = .good t) (hp : a + (nextT (s.data.toList.drop a)).1 = p) (hpq : p + t.len = q) (hk0 : (t.kind == 0) = false) (hb : beginsS t = true) (hd : dp ≤ 24) (hk : t.kind = 5) (hn : t.s = wNull) (w : World) :
   Calls Tryz.prog 71 #[.string s,.int .i64 a,.int .i64 dp] w (ROut s d w (.good (.zero,s.data.toList.drop q))):=by
 have k1 : (t.kind == 1) = false:=by simp [hk]
 have k2 : (t.kind == 2) = false:=by simp [hk]
 have k3 : (t.kind == 3) = false:=by simp [hk]
 have k4 : (t.kind == 4) = false:=by simp [hk]
 have k5 : (t.kind == 5) = true:=by simp [hk]
 have k7 : (t.s == [110,117,108,108]) = true:=by simpa [wNull] using hn
 clear hk hn
 have HN:=Lh (fun W => rnext_tok s a p t h hp ha (by omega) W)
 rw [hpq] at HN
 have HB:=Lh (fun W => rbegins_tok t p q true hb (by simpa using hk0) W)
 clear h hp hpq hb
 go_enter Tryz.func71,Tryz.ntmps71
 go_wp2_with fail
 refine (HN.out _).mono ?_
 rintro e w1 ⟨rfl,hb1⟩
 have G0 : w1.heap[w.heap.size]? = some (.cells #[.int .i64 0,.int .i64 0,.int .i64 0,.string ⟨#[]⟩,.slice none 0 0,.slice none 0 0] 26 (0,0)):=(hb1.block _ (by simp)).trans (new_at w _)
 have l1 : w.heap.size < w1.heap.size:=lt_of_block G0
 have hbw : Below w.heap.size w w1:=bel
 go_wp2_with fail
 refine (HB.out _).mono ?_
 rintro e w2 ⟨rfl,hb2⟩
 have G2 : w2.heap[w.heap.size]? = some (.cells #[.int .i64 0,.int .i64 0,.int .i64 0,.string ⟨#[]⟩,.slice none 0 0,.slice none 0 0] 26 (0,0)):=(hb2.block _ (by simp;omega)).trans ((Below.heap_alloc _ _ _ l1).trans G0)
 have GT : w2.heap[w1.heap.size]? = some (.cells #[.int .i64 t.kind,.int .i64 p,.int .i64 q,.int .i64 t.n,.string ⟨t.s.toArray⟩] 70 (0,0)):=(hb2.block _ (by simp)).trans (new_at w1 _)
 have l2 : w.heap.size < w2.heap.size:=lt_of_block G2
 have lt2 : w1.heap.size < w2.heap.size:=lt_of_block GT
 have hbw2 : Below w.heap.size w w2:=bel
 obtain ⟨b0,b1,b2,b3,b4,bf⟩:=five_at GT
 obtain ⟨tt,htt⟩ : ∃ tt,w1.heap.size = tt:=⟨_,rfl⟩
 rw [htt] at GT lt2 b0 b1 b2 b3 b4 bf
 rw [htt]
 have ltt : w.heap.size < tt:=by omega
 have ne1 : ¬ tt = w.heap.size:=by omega
 have ne2 : ¬ w.heap.size = tt:=by omega
 clear hb1 hb2 hbw G0 l1 htt
 obtain ⟨a0,a1,a2,a3,a4,a5,af⟩:=six_at G2
 go_wp2_with fail
 go_region_held3 (fun w' => w'.cell? ⟨tt,2,none⟩ = some (.int .i64 q)) (go_keep) (fail)
 all_goals go_wp2
 all_goals refine bodyPost_ret (v:=.tuple #[.agg #[.int .i64 0,.int .i64 0,.int .i64 0,.string ⟨#[]⟩,.slice none 0 0,.slice none 0 0],.int .i64 q,.int .i64 0]) (by simp [results,Tryz.results71,go_sem,a0,a1,a2,a3,a4,a5,af,l2]) rfl ?_
 all_goals exact rleaf rfl (by have hb:=hbw2;exact bel) hq
theorem robj_int (s : ByteArray) (d a p q : Nat) (t : Tok) (dp : Int) (ha : a ≤ s.size) (hs : s.size ≤ 1048576) (hq : q ≤ s.size) (h : (nextT (s.data.toList.drop a)).2 = .good t) (hp : a + (nextT (s.data.toList.drop a)).1 = p) (hpq : p + t.len = q) (hk0 : (t.kind == 0) = false) (hb : beginsS t = true) (hd : dp ≤ 24) (hk : t.kind = 1) (hr : refS t (s.data.toList.drop q) = none) (w : World) :
   Calls Tryz.prog 71 #[.string s,.int .i64 a,.int .i64 dp] w (ROut s d w (.good (.int t.n,s.data.toList.drop q))):=by
 have k1 : (t.kind == 1) = true:=by simp [hk]
 have hrf:=fun W => rref s t p q hq (by omega) W
 rw [hr] at hrf
 have HRF:=Lh hrf
 clear hk hrf hr
 have HN:=Lh (fun W => rnext_tok s a p t h hp ha (by omega) W)
 rw [hpq] at HN
 have HB:=Lh (fun W => rbegins_tok t p q true hb (by simpa using hk0) W)
 clear h hp hpq hb
 go_enter Tryz.func71,Tryz.ntmps71
 go_wp2_with fail
 refine (HN.out _).mono ?_
 rintro e w1 ⟨rfl,hb1⟩
 have G0 : w1.heap[w.heap.size]? = some (.cells #[.int .i64 0,.int .i64 0,.int .i64 0,.string ⟨#[]⟩,.slice none 0 0,.slice none 0 0] 26 (0,0)):=(hb1.block _ (by simp)).trans (new_at w _)
 have l1 : w.heap.size < w1.heap.size:=lt_of_block G0
 have hbw : Below w.heap.size w w1:=bel
 go_wp2_with fail
 refine (HB.out _).mono ?_
 rintro e w2 ⟨rfl,hb2⟩
 have G2 : w2.heap[w.heap.size]? = some (.cells #[.int .i64 0,.int .i64 0,.int .i64 0,.string ⟨#[]⟩,.slice none 0 0,.slice none 0 0] 26 (0,0)):=(hb2.block _ (by simp;omega)).trans ((Below.heap_alloc _ _ _ l1).trans G0)
 have GT : w2.heap[w1.heap.size]? = some (.cells #[.int .i64 t.kind,.int .i64 p,.int .i64 q,.int .i64 t.n,.string ⟨t.s.toArray⟩] 70 (0,0)):=(hb2.block _ (by simp)).trans (new_at w1 _)
 have l2 : w.heap.size < w2.heap.size:=lt_of_block G2
 have lt2 : w1.heap.size < w2.heap.size:=lt_of_block GT
 have hbw2 : Below w.heap.size w w2:=bel
 obtain ⟨b0,b1,b2,b3,b4,bf⟩:=five_at GT
 obtain ⟨tt,htt⟩ : ∃ tt,w1.heap.size = tt:=⟨_,rfl⟩
 rw [htt] at GT lt2 b0 b1 b2 b3 b4 bf
 rw [htt]
 have ltt : w.heap.size < tt:=by omega
 have ne1 : ¬ tt = w.heap.size:=by omega
 have ne2 : ¬ w.heap.size = tt:=by omega
 clear hb1 hb2 hbw G0 l1 htt
 go_wp2_with fail
 refine (HRF.out _).mono ?_
 rintro e w3 ⟨⟨x,y,rfl⟩,hb3⟩
 have G3:=(hb3.block _ l2).trans G2
 have GT3:=(hb3.block _ lt2).trans GT
 have l3 : w.heap.size < w3.heap.size:=lt_of_block G3
 have lt3 : tt < w3.heap.size:=lt_of_block GT3
 have hbw3 : Below w.heap.size w w3:=(by have hb:=hbw2;exact bel)
 obtain ⟨e0,e1,e2,e3,e4,ef⟩:=five_at GT3
 clear b0 b1 b2 b3 b4 bf G2 GT l2 lt2 hb3 hbw2
 go_wp2_with fail
 go_region_held3 (fun w' => w'.cell? ⟨tt,2,none⟩ = some (.int .i64 q) ∧ w'.cell? ⟨tt,3,none⟩ = some (.int .i64 t.n)) (go_keep) ((go_at_call 26;refine (rint_in _ _).mono ?_;rintro e w4 ⟨rfl,hb4⟩;obtain ⟨y0,y1,y2,y3,y4,y5,yf⟩:=six_at ((hb4.block _ l3).trans G3);obtain ⟨x0,x1,x2,x3,x4,xf⟩:=five_at ((hb4.block _ lt3).trans GT3);have l4 : w.heap.size < w4.heap.size:=Nat.lt_of_lt_of_le l3 hb4.size;unfold obV))
 all_goals go_wp2
 all_goals refine bodyPost_ret (v:=.tuple #[obV 2 t.n 0 [],.int .i64 q,.int .i64 0]) (by simp [results,Tryz.results71,go_sem,obV,y0,y1,y2,y3,y4,y5,yf,l4]) rfl ?_
 all_goals exact rleaf rfl (by have hb:=hbw3;exact bel) hq
theorem robj_ref (s : ByteArray) (d a p q : Nat) (t : Tok) (dp : Int) (ha : a ≤ s.size) (hs : s.size ≤ 1048576) (hq : q ≤ s.size) (h : (nextT (s.data.toList.drop a)).2 = .good t) (hp : a + (nextT (s.data.toList.drop a)).1 = p) (hpq : p + t.len = q) (hk0 : (t.kind == 0) = false) (hb : beginsS t = true) (hd : dp ≤ 24) (hk : t.kind = 1) (g : Int) (r : L) (hr : refS t (s.data.toList.drop q) = some (g, r)) (w : World) :
   Calls Tryz.prog 71 #[.string s,.int .i64 a,.int .i64 dp] w (ROut s d w (.good (.ref t.n g,r))):=by
 have k1 : (t.kind == 1) = true:=by simp [hk]
 have hrf:=fun W => rref s t p q hq (by omega) W
 rw [hr] at hrf
 have HRF:=Lh hrf
 clear hk hrf hr
 have HN:=Lh (fun W => rnext_tok s a p t h hp ha (by omega) W)
 rw [hpq] at HN
 have HB:=Lh (fun W => rbegins_tok t p q true hb (by simpa using hk0) W)
 clear h hp hpq hb
 go_enter Tryz.func71,Tryz.ntmps71
 go_wp2_with fail
 refine (HN.out _).mono ?_
 rintro e w1 ⟨rfl,hb1⟩
 have G0 : w1.heap[w.heap.size]? = some (.cells #[.int .i64 0,.int .i64 0,.int .i64 0,.string ⟨#[]⟩,.slice none 0 0,.slice none 0 0] 26 (0,0)):=(hb1.block _ (by simp)).trans (new_at w _)
 have l1 : w.heap.size < w1.heap.size:=lt_of_block G0
 have hbw : Below w.heap.size w w1:=bel
 go_wp2_with fail
 refine (HB.out _).mono ?_
 rintro e w2 ⟨rfl,hb2⟩
 have G2 : w2.heap[w.heap.size]? = some (.cells #[.int .i64 0,.int .i64 0,.int .i64 0,.string ⟨#[]⟩,.slice none 0 0,.slice none 0 0] 26 (0,0)):=(hb2.block _ (by simp;omega)).trans ((Below.heap_alloc _ _ _ l1).trans G0)
 have GT : w2.heap[w1.heap.size]? = some (.cells #[.int .i64 t.kind,.int .i64 p,.int .i64 q,.int .i64 t.n,.string ⟨t.s.toArray⟩] 70 (0,0)):=(hb2.block _ (by simp)).trans (new_at w1 _)
 have l2 : w.heap.size < w2.heap.size:=lt_of_block G2
 have lt2 : w1.heap.size < w2.heap.size:=lt_of_block GT
 have hbw2 : Below w.heap.size w w2:=bel
 obtain ⟨b0,b1,b2,b3,b4,bf⟩:=five_at GT
 obtain ⟨tt,htt⟩ : ∃ tt,w1.heap.size = tt:=⟨_,rfl⟩
 rw [htt] at GT lt2 b0 b1 b2 b3 b4 bf
 rw [htt]
 have ltt : w.heap.size < tt:=by omega
 have ne1 : ¬ tt = w.heap.size:=by omega
 have ne2 : ¬ w.heap.size = tt:=by omega
 clear hb1 hb2 hbw G0 l1 htt
 go_wp2_with fail
 refine (HRF.out _).mono ?_
 rintro e w3 ⟨⟨z,hz1,hz2,rfl⟩,hb3⟩
 have G3:=(hb3.block _ l2).trans G2
 have GT3:=(hb3.block _ lt2).trans GT
 have l3 : w.heap.size < w3.heap.size:=lt_of_block G3
 have lt3 : tt < w3.heap.size:=lt_of_block GT3
 have hbw3 : Below w.heap.size w w3:=(by have hb:=hbw2;exact bel)
 obtain ⟨e0,e1,e2,e3,e4,ef⟩:=five_at GT3
 clear b0 b1 b2 b3 b4 bf G2 GT l2 lt2 hb3 hbw2
 have HZ:=Lh hz2
 clear hz2
 go_wp2_with fail
 refine (rref_in _ _ _).mono ?_
 rintro e w4 ⟨rfl,hb4⟩
 have l4 : w.heap.size < w4.heap.size:=Nat.lt_of_lt_of_le l3 hb4.size
 obtain ⟨y0,y1,y2,y3,y4,y5,yf⟩:=six_at ((hb4.block _ l3).trans G3)
 unfold obV
 go_wp2
 refine bodyPost_ret (v:=.tuple #[obV 8 t.n g [],.int .i64 z,.int .i64 0]) (by simp [results,Tryz.results71,go_sem,obV,y0,y1,y2,y3,y4,y5,yf,l4]) rfl ?_
 rw [← HZ.out]
 exact rleaf rfl (by have hb:=hbw3;exact bel) hz1
theorem robj_arr (s : ByteArray) (d a p q : Nat) (t : Tok) (dp : Int) (ha : a ≤ s.size) (hs : s.size ≤ 1048576) (hq : q ≤ s.size) (h : (nextT (s.data.toList.drop a)).2 = .good t) (hp : a + (nextT (s.data.toList.drop a)).1 = p) (hpq : p + t.len = q) (hk0 : (t.kind == 0) = false) (hb : beginsS t = true) (hd : dp ≤ 24) (hk : t.kind = 6) (hn : t.s = [91]) (R : Res (Ob × L))
   (HCC : ∀ W,Calls Tryz.prog 114 #[.string s,.int .i64 q,.int .i64 dp] W (ROut s d W R)) (w : World) :
   Calls Tryz.prog 71 #[.string s,.int .i64 a,.int .i64 dp] w (ROut s d w R):=by
 have k1 : (t.kind == 1) = false:=by simp [hk]
 have k2 : (t.kind == 2) = false:=by simp [hk]
 have k3 : (t.kind == 3) = false:=by simp [hk]
 have k4 : (t.kind == 4) = false:=by simp [hk]
 have k5 : (t.kind == 5) = false:=by simp [hk]
 have k7 : (t.s == [91]) = true:=by simpa using hn
 have HC:=Lh HCC
 clear hk hn HCC
 have HN:=Lh (fun W => rnext_tok s a p t h hp ha (by omega) W)
 rw [hpq] at HN
 have HB:=Lh (fun W => rbegins_tok t p q true hb (by simpa using hk0) W)
 clear h hp hpq hb
 go_enter Tryz.func71,Tryz.ntmps71
 go_wp2_with fail
 refine (HN.out _).mono ?_
 rintro e w1 ⟨rfl,hb1⟩
 have G0 : w1.heap[w.heap.size]? = some (.cells #[.int .i64 0,.int .i64 0,.int .i64 0,.string ⟨#[]⟩,.slice none 0 0,.slice none 0 0] 26 (0,0)):=(hb1.block _ (by simp)).trans (new_at w _)
 have l1 : w.heap.size < w1.heap.size:=lt_of_block G0
 have hbw : Below w.heap.size w w1:=bel
 go_wp2_with fail
 refine (HB.out _).mono ?_
 rintro e w2 ⟨rfl,hb2⟩
 have G2 : w2.heap[w.heap.size]? = some (.cells #[.int .i64 0,.int .i64 0,.int .i64 0,.string ⟨#[]⟩,.slice none 0 0,.slice none 0 0] 26 (0,0)):=(hb2.block _ (by simp;omega)).trans ((Below.heap_alloc _ _ _ l1).trans G0)
 have GT : w2.heap[w1.heap.size]? = some (.cells #[.int .i64 t.kind,.int .i64 p,.int .i64 q,.int .i64 t.n,.string ⟨t.s.toArray⟩] 70 (0,0)):=(hb2.block _ (by simp)).trans (new_at w1 _)
 have l2 : w.heap.size < w2.heap.size:=lt_of_block G2
 have lt2 : w1.heap.size < w2.heap.size:=lt_of_block GT
 have hbw2 : Below w.heap.size w w2:=bel
 obtain ⟨b0,b1,b2,b3,b4,bf⟩:=five_at GT
 obtain ⟨tt,htt⟩ : ∃ tt,w1.heap.size = tt:=⟨_,rfl⟩
 rw [htt] at GT lt2 b0 b1 b2 b3 b4 bf
 rw [htt]
 have ltt : w.heap.size < tt:=by omega
 have ne1 : ¬ tt = w.heap.size:=by omega
 have ne2 : ¬ w.heap.size = tt:=by omega
 clear hb1 hb2 hbw G0 l1 htt
 go_wp2_with fail
 refine (HC.out _).mono ?_
 intro e w4 hpost
 cases R with
 | bad k =>
   obtain ⟨rfl,hb4⟩:=hpost
   obtain ⟨y0,y1,y2,y3,y4,y5,yf⟩:=six_at ((hb4.block _ l2).trans G2)
   have l4 : w.heap.size < w4.heap.size:=Nat.lt_of_lt_of_le l2 hb4.size
   go_wp2
   refine bodyPost_ret (v:=.tuple #[.agg #[.int .i64 0,.int .i64 0,.int .i64 0,.string ⟨#[]⟩,.slice none 0 0,.slice none 0 0],.int .i64 0,.int .i64 k]) (by simp [results,Tryz.results71,go_sem,obV,y0,y1,y2,y3,y4,y5,yf,l4]) rfl ⟨rfl,by have hb:=hbw2;exact bel⟩
 | good R =>
   obtain ⟨o,rest⟩:=R
   obtain ⟨p1,n1,c1,p2,n2,c2,z,rfl,hz1,hz2,hO,hb4⟩:=hpost
   obtain ⟨y0,y1,y2,y3,y4,y5,yf⟩:=six_at ((hb4.block _ l2).trans G2)
   have l4 : w.heap.size < w4.heap.size:=Nat.lt_of_lt_of_le l2 hb4.size
   have HZ:=Lh hz2
   clear hz2
   go_wp2
   refine bodyPost_ret (v:=.tuple #[.agg #[.int .i64 o.kind,.int .i64 o.n,.int .i64 o.g,.string ⟨o.s.toArray⟩,.slice p1 n1 c1,.slice p2 n2 c2],.int .i64 z,.int .i64 0]) (by simp [results,Tryz.results71,go_sem,obV,y0,y1,y2,y3,y4,y5,yf,l4]) rfl ?_
   refine ⟨p1,n1,c1,p2,n2,c2,z,rfl,hz1,HZ.out,objAt_out hO (by omega) ?_,by have hb:=hbw2;exact bel⟩
   intro b hb
   rw [Below.heap_setCell _ _ _ _ (by show b ≠ w.heap.size;omega),Below.heap_setCell _ _ _ _ (by show b ≠ w.heap.size;omega),Below.heap_setCell _ _ _ _ (by show b ≠ w.heap.size;omega),Below.heap_setCell _ _ _ _ (by show b ≠ w.heap.size;omega),Below.heap_setCell _ _ _ _ (by show b ≠ w.heap.size;omega),Below.heap_setCell _ _ _ _ (by show b ≠ w.heap.size;omega)]
theorem robj_dict (s : ByteArray) (d a p q : Nat) (t : Tok) (dp : Int) (ha : a ≤ s.size) (hs : s.size ≤ 1048576) (hq : q ≤ s.size) (h : (nextT (s.data.toList.drop a)).2 = .good t) (hp : a + (nextT (s.data.toList.drop a)).1 = p) (hpq : p + t.len = q) (hk0 : (t.kind == 0) = false) (hb : beginsS t = true) (hd : dp ≤ 24) (hk : t.kind = 6) (hn : ¬ t.s = [91]) (R : Res (Ob × L))
   (HCC : ∀ W,Calls Tryz.prog 115 #[.string s,.int .i64 q,.int .i64 dp] W (ROut s d W R)) (w : World) :
   Calls Tryz.prog 71 #[.string s,.int .i64 a,.int .i64 dp] w (ROut s d w R):=by
 have k1 : (t.kind == 1) = false:=by simp [hk]
 have k2 : (t.kind == 2) = false:=by simp [hk]
 have k3 : (t.kind == 3) = false:=by simp [hk]
 have k4 : (t.kind == 4) = false:=by simp [hk]
 have k5 : (t.kind == 5) = false:=by simp [hk]
 have k7 : (t.s == [91]) = false:=by simpa using hn
 have HC:=Lh HCC
 clear hk hn HCC
 have HN:=Lh (fun W => rnext_tok s a p t h hp ha (by omega) W)
 rw [hpq] at HN
 have HB:=Lh (fun W => rbegins_tok t p q true hb (by simpa using hk0) W)
 clear h hp hpq hb
 go_enter Tryz.func71,Tryz.ntmps71
 go_wp2_with fail
 refine (HN.out _).mono ?_
 rintro e w1 ⟨rfl,hb1⟩
 have G0 : w1.heap[w.heap.size]? = some (.cells #[.int .i64 0,.int .i64 0,.int .i64 0,.string ⟨#[]⟩,.slice none 0 0,.slice none 0 0] 26 (0,0)):=(hb1.block _ (by simp)).trans (new_at w _)
 have l1 : w.heap.size < w1.heap.size:=lt_of_block G0
 have hbw : Below w.heap.size w w1:=bel
 go_wp2_with fail
 refine (HB.out _).mono ?_
 rintro e w2 ⟨rfl,hb2⟩
 have G2 : w2.heap[w.heap.size]? = some (.cells #[.int .i64 0,.int .i64 0,.int .i64 0,.string ⟨#[]⟩,.slice none 0 0,.slice none 0 0] 26 (0,0)):=(hb2.block _ (by simp;omega)).trans ((Below.heap_alloc _ _ _ l1).trans G0)
 have GT : w2.heap[w1.heap.size]? = some (.cells #[.int .i64 t.kind,.int .i64 p,.int .i64 q,.int .i64 t.n,.string ⟨t.s.toArray⟩] 70 (0,0)):=(hb2.block _ (by simp)).trans (new_at w1 _)
 have l2 : w.heap.size < w2.heap.size:=lt_of_block G2
 have lt2 : w1.heap.size < w2.heap.size:=lt_of_block GT
 have hbw2 : Below w.heap.size w w2:=bel
 obtain ⟨b0,b1,b2,b3,b4,bf⟩:=five_at GT
 obtain ⟨tt,htt⟩ : ∃ tt,w1.heap.size = tt:=⟨_,rfl⟩
 rw [htt] at GT lt2 b0 b1 b2 b3 b4 bf
 rw [htt]
 have ltt : w.heap.size < tt:=by omega
 have ne1 : ¬ tt = w.heap.size:=by omega
 have ne2 : ¬ w.heap.size = tt:=by omega
 clear hb1 hb2 hbw G0 l1 htt
 go_wp2_with fail
 refine (HC.out _).mono ?_
 intro e w4 hpost
 cases R with
 | bad k =>
   obtain ⟨rfl,hb4⟩:=hpost
   obtain ⟨y0,y1,y2,y3,y4,y5,yf⟩:=six_at ((hb4.block _ l2).trans G2)
   have l4 : w.heap.size < w4.heap.size:=Nat.lt_of_lt_of_le l2 hb4.size
   go_wp2
   refine bodyPost_ret (v:=.tuple #[.agg #[.int .i64 0,.int .i64 0,.int .i64 0,.string ⟨#[]⟩,.slice none 0 0,.slice none 0 0],.int .i64 0,.int .i64 k]) (by simp [results,Tryz.results71,go_sem,obV,y0,y1,y2,y3,y4,y5,yf,l4]) rfl ⟨rfl,by have hb:=hbw2;exact bel⟩
 | good R =>
   obtain ⟨o,rest⟩:=R
   obtain ⟨p1,n1,c1,p2,n2,c2,z,rfl,hz1,hz2,hO,hb4⟩:=hpost
   obtain ⟨y0,y1,y2,y3,y4,y5,yf⟩:=six_at ((hb4.block _ l2).trans G2)
   have l4 : w.heap.size < w4.heap.size:=Nat.lt_of_lt_of_le l2 hb4.size
   have HZ:=Lh hz2
   clear hz2
   go_wp2
   refine bodyPost_ret (v:=.tuple #[.agg #[.int .i64 o.kind,.int .i64 o.n,.int .i64 o.g,.string ⟨o.s.toArray⟩,.slice p1 n1 c1,.slice p2 n2 c2],.int .i64 z,.int .i64 0]) (by simp [results,Tryz.results71,go_sem,obV,y0,y1,y2,y3,y4,y5,yf,l4]) rfl ?_
   refine ⟨p1,n1,c1,p2,n2,c2,z,rfl,hz1,HZ.out,objAt_out hO (by omega) ?_,by have hb:=hbw2;exact bel⟩
   intro b hb
   rw [Below.heap_setCell _ _ _ _ (by show b ≠ w.heap.size;omega),Below.heap_setCell _ _ _ _ (by show b ≠ w.heap.size;omega),Below.heap_setCell _ _ _ _ (by show b ≠ w.heap.size;omega),Below.heap_setCell _ _ _ _ (by show b ≠ w.heap.size;omega),Below.heap_setCell _ _ _ _ (by show b ≠ w.heap.size;omega),Below.heap_setCell _ _ _ _ (by show b ≠ w.heap.size;omega)]
theorem objAt_arr {S S' : Nat → Prop} {w : World} {B d : Nat} {v : Value} {css : List (List Value)} {acc : List Ob} (h : w.ownsRow B 26 6 v acc.length css.flatten) (hk : KidsAt S d w css acc)
   (hS : ∀ b,S b → S' b) (hB : ∀ b,B ≤ b → S' b) : ObjAt S' (d + 1) w (objCells 6 0 0 [] (.slice none 0 0) v) (.mk 6 0 0 [] [] acc) :=
 ⟨_,_,rfl,.inl ⟨rfl,_,_,rfl⟩,kids_at h hk hS hB⟩
theorem arrS_bad {f : Tok → L → Res (Ob × L)} {d n : Nat} {l : L} {acc : List Ob} {k : Int} (h : nextS l = .bad k) : arrS f d (n + 1) l acc = .bad k:=by rw [arrS,h]
theorem arrS_end {f : Tok → L → Res (Ob × L)} {d n : Nat} {l r : L} {acc : List Ob} {t : Tok} (h : nextS l = .good (t,r)) (hw : (t.kind == 6 && t.s == [93]) = true) : arrS f d (n + 1) l acc = .good (acc,r):=by
 rw [arrS,h];simp only [Bool.and_eq_true,beq_iff_eq] at hw;simp [hw]
theorem arrS_fbad {f : Tok → L → Res (Ob × L)} {d n : Nat} {l r : L} {acc : List Ob} {t : Tok} {k : Int} (h : nextS l = .good (t,r)) (hw : (t.kind == 6 && t.s == [93]) = false) (hb : ¬ (beginsS t = true ∧ 0 < d ∧ 8191 ≤ acc.length)) (hf : f t r = .bad k) : arrS f d (n + 1) l acc = .bad k:=by
 rw [arrS,h]
 have : ¬ (t.kind = 6 ∧ t.s = [93]):=by rintro ⟨h1,h2⟩;simp [h1,h2] at hw
 dsimp only
 rw [if_neg this,if_neg hb,hf]
theorem arrS_more {f : Tok → L → Res (Ob × L)} {d n : Nat} {l r r2 : L} {acc : List Ob} {t : Tok} {o : Ob} (h : nextS l = .good (t,r)) (hw : (t.kind == 6 && t.s == [93]) = false) (hb : ¬ (beginsS t = true ∧ 0 < d ∧ 8191 ≤ acc.length)) (hf : f t r = .good (o,r2)) : arrS f d (n + 1) l acc = arrS f d n r2 (acc ++ [o]):=by
 rw [arrS,h]
 have : ¬ (t.kind = 6 ∧ t.s = [93]):=by rintro ⟨h1,h2⟩;simp [h1,h2] at hw
 dsimp only
 rw [if_neg this,if_neg hb,hf]
theorem arrS_step {d fuel : Nat} {l : L} {acc : List Ob} {t : Tok} (h : (nextT l).2 = .good t) (hw : (t.kind == 6 && t.s == [93]) = false) (hl : acc.length < 8191) :
   arrS (objS d) d (fuel + 1) l acc = match objD d l with | .bad e => .bad e | .good x => arrS (objS d) d fuel x.2 (acc ++ [x.1]):=by
 unfold objD
 cases hn : nextS l with
 | bad e => exact arrS_bad hn
 | good x =>
   obtain ⟨t',r⟩:=x
   have h1:=(nextS_good hn).1
   rw [h] at h1
   cases h1
   cases hf : objS d t r with
   | bad e => simp only [hf];exact arrS_fbad hn hw (by omega) hf
   | good y => obtain ⟨o,r2⟩:=y;simp only [hf];exact arrS_more hn hw (by omega) hf
theorem arrS_full {d fuel : Nat} {l : L} {acc : List Ob} {t : Tok} (h : (nextT l).2 = .good t) (hw : (t.kind == 6 && t.s == [93]) = false) (hl : 8191 ≤ acc.length) : ∃ k,arrS (objS d) d (fuel + 1) l acc = .bad k:=by
 rw [arrS]
 cases hn : nextS l with
 | bad e => exact ⟨e,rfl⟩
 | good x =>
   obtain ⟨t',r⟩:=x
   have h1:=(nextS_good hn).1
   rw [h] at h1
   cases h1
   dsimp only
   rw [if_neg (fun hh => by simp [hh.1,hh.2] at hw)]
   by_cases hb : beginsS t = true ∧ 0 < d ∧ 8191 ≤ acc.length
   · rw [if_pos hb];exact ⟨6,rfl⟩
   · rw [if_neg hb]
     cases d with
     | zero =>
       rw [objS]
       cases hbg : beginsS t
       · exact ⟨3,rfl⟩
       · exact ⟨7,rfl⟩
     | succ d =>
       rw [objS]
       cases hbg : beginsS t
       · exact ⟨3,rfl⟩
       · exact absurd ⟨hbg,Nat.succ_pos _,hl⟩ hb
theorem arrS_lex {d fuel : Nat} {l : L} {acc : List Ob} {k : Int} (h : (nextT l).2 = .bad k) : arrS (objS d) d (fuel + 1) l acc = .bad k :=
 arrS_bad (by unfold nextS;rw [h])
theorem arrS_shut {d fuel : Nat} {l : L} {acc : List Ob} {t : Tok} (h : (nextT l).2 = .good t) (hw : (t.kind == 6 && t.s == [93]) = true) :
   arrS (objS d) d (fuel + 1) l acc = .good (acc,l.drop ((nextT l).1 + t.len)):=by
 have hk : ¬ t.kind = 0:=by simp at hw;omega
 exact arrS_end (by unfold nextS;rw [h];simp [hk]) hw
theorem objD_shorter {d : Nat} {l : L} {x : Ob × L} (h : objD d l = .good x) : x.2.length < l.length:=by
 unfold objD at h
 cases hn : nextS l with
 | bad e => rw [hn] at h;cases h
 | good y =>
   obtain ⟨t,r⟩:=y
   rw [hn] at h
   have h1 : x.2.length ≤ r.length:=objS_shorter _ _ _ _ _ h
   have h2:=(nextS_shorter hn).1
   omega
theorem rarr_round (s : ByteArray) (d fuel a0 z : Nat) (w w3 w4 w5 : World) (gg cap : Nat) (vp : Option Addr) (vc : Nat) (acc : List Ob) (css : List (List Value)) (o : Ob) (p1 : Option Addr) (n1 c1 : Nat) (p2 : Option Addr) (n2 c2 : Nat) (T : Res (List Ob × L))
   (B0 : w3.heap[w.heap.size]? = some (.cells #[.int .i64 0,.int .i64 0,.int .i64 0,.string ⟨#[]⟩,.slice none 0 0,.slice none 0 0] 26 (0,0)))
   (B1 : w3.heap[w.heap.size + 1]? = some (.cells #[.int .i64 6,.int .i64 0,.int .i64 0,.string ⟨#[]⟩,.slice none 0 0,.slice vp acc.length vc] 26 (0,0)))
   (hown3 : w3.ownsRow (w.heap.size + 2) 26 6 (.slice vp acc.length vc) acc.length css.flatten)
   (hkids : KidsAt (fun b => w.heap.size + 2 ≤ b ∧ (Value.slice vp acc.length vc).ownBlock ≠ some b) (d + 1) w3 css acc)
   (hO : ObjAt (fun b => w3.heap.size ≤ b) (d + 1) w4 (objCells o.kind o.n o.g o.s (.slice p1 n1 c1) (.slice p2 n2 c2)) o)
   (hs4 : Below w3.heap.size w3 w4) (hbd : Below w.heap.size w w3)
   (hown5 : w5.ownsRow (w.heap.size + 2) 26 6 (.slice (some ⟨gg,0,none⟩) (acc.length + 1) cap) (acc.length + 1) (css.flatten ++ objCells o.kind o.n o.g o.s (.slice p1 n1 c1) (.slice p2 n2 c2)))
   (hgrow : (w4.alloc (.cells #[.int .i64 o.kind,.int .i64 o.n,.int .i64 o.g,.string ⟨o.s.toArray⟩,.slice p1 n1 c1,.slice p2 n2 c2] 26)).grownBy w5 (Value.slice vp acc.length vc).ownBlock)
   (hat : (Value.slice vp acc.length vc).ownBlock = some gg ∨ gg = w4.heap.size + 1) (hz1 : z ≤ s.size) (hz0 : a0 + acc.length + 1 ≤ z)
   (HX : Hid (arrS (objS d) d fuel (s.data.toList.drop z) (acc ++ [o]) = T)) (hfu : s.size - z < fuel) :
   (fun (i : Value) wr => ∃ (a fuel : Nat) (acc : List Ob) (css : List (List Value)) (v : Value),a ≤ s.size ∧ a0 + acc.length ≤ a ∧ i = .int .i64 a ∧ wr.heap[w.heap.size]? = some (.cells #[.int .i64 0,.int .i64 0,.int .i64 0,.string ⟨#[]⟩,.slice none 0 0,.slice none 0 0] 26 (0,0)) ∧ wr.heap[w.heap.size + 1]? = some (.cells #[.int .i64 6,.int .i64 0,.int .i64 0,.string ⟨#[]⟩,.slice none 0 0,v] 26 (0,0)) ∧ wr.ownsRow (w.heap.size + 2) 26 6 v acc.length css.flatten ∧ KidsAt (fun b => w.heap.size + 2 ≤ b ∧ v.ownBlock ≠ some b) (d + 1) wr css acc ∧ Below w.heap.size w wr ∧ s.size - a < fuel ∧ Hid (arrS (objS d) d fuel (s.data.toList.drop a) acc = T)) (.int .i64 z) (w5.setCell ⟨w.heap.size + 1,5,none⟩ (.slice (some ⟨gg,0,none⟩) (acc.length + 1) cap)):=by
 obtain ⟨wf,hwf⟩ : ∃ wf,w5.setCell ⟨w.heap.size + 1,5,none⟩ (.slice (some ⟨gg,0,none⟩) (acc.length + 1) cap) = wf:=⟨_,rfl⟩
 have hlt3 : w.heap.size + 1 < w3.heap.size:=lt_of_block B1
 have hlt4:=hs4.size
 have hlo:=own_base hown3
 have hup : ∀ k,(Value.slice vp acc.length vc).ownBlock = some k → k < w3.heap.size:=fun k h => (World.ownsRow.lt hown3 k h).2
 have hg2 : w.heap.size + 2 ≤ gg:=own_base hown5 gg rfl
 have hk : ∀ k,k < w4.heap.size → k ≠ w.heap.size + 1 → (Value.slice vp acc.length vc).ownBlock ≠ some k → wf.heap[k]? = w4.heap[k]?:=fun k h1 h2 h3 => by
   rw [← hwf]
   exact (Below.heap_setCell _ _ _ _ h2).trans ((hgrow.block k (by simp;omega) (Ne.symm h3)).trans (Below.heap_alloc _ _ _ h1))
 have nown : ∀ k,k < w.heap.size + 2 → (Value.slice vp acc.length vc).ownBlock ≠ some k:=fun k h h' => by have:=hlo k h';omega
 have hgb : w5.grownBy wf (some (w.heap.size + 1)):=by
   rw [← hwf]
   exact ⟨rfl,rfl,rfl,by simp [World.setCell],fun k h1 h2 => Below.heap_setCell _ _ _ _ (by intro h;exact h2 (by rw [h]))⟩
 have hsz : w4.heap.size + 1 ≤ wf.heap.size:=by
   have:=hgrow.size;simp at this
   exact Nat.le_trans this hgb.size
 have hggn : ∀ b,b < w4.heap.size → (Value.slice vp acc.length vc).ownBlock ≠ some b → some gg ≠ some b:=by
   intro b h1 h2 h3
   simp only [Option.some.injEq] at h3;subst h3
   rcases hat with h | h
   · exact h2 h
   · omega
 rw [hwf]
 refine ⟨z,fuel,acc ++ [o],css ++ [objCells o.kind o.n o.g o.s (.slice p1 n1 c1) (.slice p2 n2 c2)],.slice (some ⟨gg,0,none⟩) (acc.length + 1) cap,hz1,by simp;omega,rfl,?_,?_,?_,?_,?_,hfu,HX⟩
 · rw [hk _ (by omega) (by omega) (nown _ (by omega)),hs4.block _ (by omega)];exact B0
 · rw [← hwf]
   refine set_fifth (v5:=.slice vp acc.length vc) ?_
   rw [hgrow.block _ (by simp;omega) (Ne.symm (nown _ (by omega))),Below.heap_alloc _ _ _ (by omega),hs4.block _ (by omega)];exact B1
 · have:=World.ownsRow.kept hown5 hgb (.inr (by simp [Value.ownBlock];omega))
   simpa using this
 · refine KidsAt.push ?_ rfl ?_
   · exact hkids.grow (fun b h1 h2 => ⟨⟨h1.1,hggn b (by omega) h1.2⟩,(hk b (by omega) (by have:=h1.1;omega) h1.2).trans (hs4.block b h2)⟩)
   · refine hO.grow (fun b h1 h2 => ?_)
     have nb : (Value.slice vp acc.length vc).ownBlock ≠ some b:=fun h => by have:=hup b h;omega
     exact ⟨⟨by omega,hggn b h2 nb⟩,hk b h2 (by omega) nb⟩
 · refine ⟨?_,?_,?_,by have:=hbd.size;omega,fun k h1 => (hk k (by omega) (by omega) (nown k (by omega))).trans ((hs4.block k (by omega)).trans (hbd.block k h1))⟩
   · exact hgb.os.trans (hgrow.os.trans (hs4.os.trans hbd.os))
   · exact hgb.tape.trans (hgrow.tape.trans (hs4.tape.trans hbd.tape))
   · exact hgb.output.trans (hgrow.output.trans (hs4.output.trans hbd.output))
theorem rarray (s : ByteArray) (d : Nat) (hs : s.size ≤ 1048576) (hd : d ≤ 24) (HO : RObjC s d) : RArrC s d:=by
 intro a0 w ha0 hgood
 obtain ⟨z0,hgood⟩:=hgood
 obtain ⟨T,hT⟩ : ∃ T,arrS (objS d) d ((s.data.toList.drop a0).length + 1) (s.data.toList.drop a0) [] = T:=⟨_,rfl⟩
 rw [hT] at hgood ⊢
 have HT:=Lh hT
 have HZ:=Lh hgood
 clear hgood
 have hl0 : (s.data.toList.drop a0).length = s.size - a0:=by simp
 rw [hl0] at HT
 clear hT hl0
 go_enter Tryz.func114,Tryz.ntmps114
 go_wp2
 go_loopw [1] (fun i wr => ∃ (a fuel : Nat) (acc : List Ob) (css : List (List Value)) (v : Value),a ≤ s.size ∧ a0 + acc.length ≤ a ∧ i = .int .i64 a ∧ wr.heap[w.heap.size]? = some (.cells #[.int .i64 0,.int .i64 0,.int .i64 0,.string ⟨#[]⟩,.slice none 0 0,.slice none 0 0] 26 (0,0)) ∧ wr.heap[w.heap.size + 1]? = some (.cells #[.int .i64 6,.int .i64 0,.int .i64 0,.string ⟨#[]⟩,.slice none 0 0,v] 26 (0,0)) ∧ wr.ownsRow (w.heap.size + 2) 26 6 v acc.length css.flatten ∧ KidsAt (fun b => w.heap.size + 2 ≤ b ∧ v.ownBlock ≠ some b) (d + 1) wr css acc ∧ Below w.heap.size w wr ∧ s.size - a < fuel ∧ Hid (arrS (objS d) d fuel (s.data.toList.drop a) acc = T)) (fun i _ => s.size - (intOf i).toNat)
 case atStart =>
   refine ⟨a0,s.size - a0 + 1,[],[],.slice none 0 0,ha0,by simp,rfl,?_,?_,⟨by simp,.inl ⟨rfl,rfl⟩⟩,KidsAt.nil,bel,by omega,HT⟩
   · rw [Below.heap_alloc _ _ _ (by simp)];exact heap_new_at _ _ _ rfl
   · exact heap_new_at _ _ _ (by simp)
 case round =>
   obtain ⟨a,fuel,acc,css,v,ha,hacc,rfl,hB0,hB1,hown,hkids,hbr,hfu,H⟩:=hrel
   clear HT
   obtain ⟨vp,vc,rfl⟩:=own_slice hown
   obtain ⟨fuel,rfl⟩ : ∃ f,fuel = f + 1:=⟨fuel - 1,by omega⟩
   have hlt1 : w.heap.size + 1 < wr.heap.size:=lt_of_block hB1
   cases hn : (nextT (s.data.toList.drop a)).2 with
   | bad k =>
     have HX:=Lh (H.out.symm.trans (arrS_lex hn))
     have HN:=Lh (fun W => rnext_err s a k hn ha (by omega) W)
     have hk : (k == 0) = false:=by have:=nextT_bad hn;simp;omega
     have hk2 : (k != 0) = true:=by have:=nextT_bad hn;simp;omega
     clear hn H
     go_wp2_with fail
     refine (HN.out _).mono ?_
     rintro e w1 ⟨rfl,hb1⟩
     have hz1:=hb1.size
     have hb01 : w.heap.size < w1.heap.size:=by omega
     have hb11 : w.heap.size + 1 < w1.heap.size:=by omega
     have k0:=(hb1.block _ (by omega)).trans hB0
     have k1:=(hb1.block _ (by omega)).trans hB1
     have hbw : Below w.heap.size w w1:=bel
     obtain ⟨a0',a1,a2,a3,a4,a5,af⟩:=six_of k0
     go_wp2
     refine bodyPost_ret (v:=.tuple #[.agg #[.int .i64 0,.int .i64 0,.int .i64 0,.string ⟨#[]⟩,.slice none 0 0,.slice none 0 0],.int .i64 0,.int .i64 k]) (by simp [results,Tryz.results114,go_sem,a0',a1,a2,a3,a4,a5,af,hb01]) rfl ?_
     rw [HX.out]
     exact ⟨rfl,bel⟩
   | good t =>
     obtain ⟨p,hp⟩ : ∃ p,a + (nextT (s.data.toList.drop a)).1 = p:=⟨_,rfl⟩
     obtain ⟨q,hq⟩ : ∃ q,p + t.len = q:=⟨_,rfl⟩
     have HN:=Lh (fun W => rnext_tok s a p t hn hp ha (by omega) W)
     rw [hq] at HN
     have hqs : q ≤ s.size:=by
       have:=(nextT_good hn).1
       rw [List.length_drop] at this
       have h2 : s.data.toList.length = s.size:=rfl
       omega
     cases hw : (t.kind == 6 && t.s == [93]) with
     | true =>
       have HX:=Lh (show T = .good (acc,s.data.toList.drop q) by rw [← H.out,arrS_shut hn hw,List.drop_drop];congr 3;omega)
       have w6 : (t.kind == 6) = true:=by simp at hw;simp [hw]
       have w7 : (t.s == [93]) = true:=by simp at hw;simp [hw]
       clear hn H hw hp hq
       go_wp2_with fail
       refine (HN.out _).mono ?_
       rintro e w1 ⟨rfl,hb1⟩
       have hz1:=hb1.size
       have hb01 : w.heap.size < w1.heap.size:=by omega
       have hb11 : w.heap.size + 1 < w1.heap.size:=by omega
       have k0:=(hb1.block _ (by omega)).trans hB0
       have k1:=(hb1.block _ (by omega)).trans hB1
       have hbw : Below w.heap.size w w1:=bel
       have ne1 : ¬ w.heap.size + 1 = w.heap.size:=by omega
       have ne2 : ¬ w.heap.size = w.heap.size + 1:=by omega
       have ne3 : ¬ w1.heap.size = w.heap.size:=by omega
       have ne4 : ¬ w.heap.size = w1.heap.size:=by omega
       have hO:=objAt_arr (S':=fun b => w.heap.size + 2 ≤ b) hown hkids (fun b hb => hb.1) (fun b hb => hb)
       have HKEEP:=Lh (fun (wf : World) (hk : ∀ b,w.heap.size + 2 ≤ b → b < wr.heap.size → wf.heap[b]? = wr.heap[b]?) => ObjAt.grow (S':=fun b => w.heap.size ≤ b) (w':=wf) hO (fun b h1 h2 => ⟨by omega,hk b h1 h2⟩))
       have HB1:=Lh hb1
       clear hown hkids hO hB0 hB1 hb1
       go_wp2_with fail
       obtain ⟨w2,hw2⟩ : ∃ w2,w1.alloc (.cells #[.int .i64 t.kind,.int .i64 p,.int .i64 q,.int .i64 t.n,.string ⟨t.s.toArray⟩] 70) = w2:=⟨_,rfl⟩
       rw [hw2]
       have hb12 : Below w1.heap.size w1 w2:=by rw [← hw2];exact belr
       obtain ⟨t0,t1,t2,t3,t4,tf⟩:=five_at ((by rw [← hw2];exact new_at w1 _) : w2.heap[w1.heap.size]? = some (.cells #[.int .i64 t.kind,.int .i64 p,.int .i64 q,.int .i64 t.n,.string ⟨t.s.toArray⟩] 70 (0,0)))
       obtain ⟨a0',a1,a2,a3,a4,a5,af⟩:=six_of ((hb12.block _ hb01).trans k0)
       obtain ⟨b0,b1,b2,b3,b4,b5,bf⟩:=six_of ((hb12.block _ hb11).trans k1)
       have hb02 : w.heap.size < w2.heap.size:=by have:=hb12.size;omega
       clear hw2
       go_region_held3 (fun w' => w'.cell? ⟨w.heap.size + 1,0,none⟩ = some (.int .i64 6) ∧ w'.cell? ⟨w.heap.size + 1,1,none⟩ = some (.int .i64 0) ∧ w'.cell? ⟨w.heap.size + 1,2,none⟩ = some (.int .i64 0) ∧ w'.cell? ⟨w.heap.size + 1,3,none⟩ = some (.string ⟨#[]⟩) ∧ w'.cell? ⟨w.heap.size + 1,4,none⟩ = some (.slice none 0 0) ∧ w'.cell? ⟨w.heap.size + 1,5,none⟩ = some (.slice vp acc.length vc) ∧ w'.cell? ⟨w1.heap.size,2,none⟩ = some (.int .i64 q)) (go_keep) (fail)
       all_goals go_wp2
       all_goals refine bodyPost_ret (v:=.tuple #[.agg #[.int .i64 6,.int .i64 0,.int .i64 0,.string ⟨#[]⟩,.slice none 0 0,.slice vp acc.length vc],.int .i64 q,.int .i64 0]) (by simp [results,Tryz.results114,go_sem,a0',a1,a2,a3,a4,a5,af,hb02]) rfl ?_
       all_goals rw [HX.out]
       all_goals refine ⟨_,_,_,_,_,_,q,rfl,hqs,rfl,HKEEP.out _ ?_,?_⟩
       · intro b h1 h2
         rw [heap_drew,Below.heap_setCell _ _ _ _ (by show b ≠ w.heap.size;omega),Below.heap_setCell _ _ _ _ (by show b ≠ w.heap.size;omega),Below.heap_setCell _ _ _ _ (by show b ≠ w.heap.size;omega),Below.heap_setCell _ _ _ _ (by show b ≠ w.heap.size;omega),Below.heap_setCell _ _ _ _ (by show b ≠ w.heap.size;omega),Below.heap_setCell _ _ _ _ (by show b ≠ w.heap.size;omega),hb12.block b (by omega),HB1.out.block b h2]
       · have hb:=hbw
         have hb3:=hb12
         exact bel
     | false =>
       have hl8 : acc.length < 8191:=by
         apply Classical.byContradiction
         intro hge
         obtain ⟨k,hk⟩:=arrS_full (d:=d) (fuel:=fuel) hn hw (Nat.not_lt.1 hge)
         have h1:=H.out
         rw [hk,HZ.out] at h1
         cases h1
       have hstep:=H.out
       rw [arrS_step hn hw hl8] at hstep
       have e8 : ((acc.length : Int) == 8191) = false:=by simp;omega
       have hwt : ((t.kind == 6) = true ∧ (t.s == [93]) = false) ∨ (t.kind == 6) = false:=by
         cases h1 : (t.kind == 6)
         · exact .inr rfl
         · rw [h1] at hw;exact .inl ⟨rfl,by simpa using hw⟩
       cases hR : objD d (s.data.toList.drop a) with
       | bad k =>
         rw [hR,HZ.out] at hstep
         cases hstep
       | good x =>
         obtain ⟨o,rest⟩:=x
         have hsh : rest.length < (s.data.toList.drop a).length:=objD_shorter hR
         have hocc:=fun W => HO a W ha ⟨_,hR⟩
         rw [show (25 : Int) - (d : Int) = 24 - (d : Int) + 1 by omega] at hocc
         rw [hR] at hstep hocc
         have HX0:=Lh hstep
         have HOC:=Lh hocc
         clear hn H hw hp hq hstep hocc hR
         rcases hwt with ⟨w6,w7⟩ | w6
         · skip
           go_wp2_with fail
           refine (HN.out _).mono ?_
           rintro e w1 ⟨rfl,hb1⟩
           have hz1:=hb1.size
           have hb01 : w.heap.size < w1.heap.size:=by omega
           have hb11 : w.heap.size + 1 < w1.heap.size:=by omega
           have k0:=(hb1.block _ (by omega)).trans hB0
           have k1:=(hb1.block _ (by omega)).trans hB1
           have hbw : Below w.heap.size w w1:=bel
           obtain ⟨b0,b1,b2,b3,b4,b5,bf⟩:=six_of k1
           go_wp2_with fail
           obtain ⟨w3,hw3⟩ : ∃ w3,w1.alloc (.cells #[.int .i64 t.kind,.int .i64 p,.int .i64 q,.int .i64 t.n,.string ⟨t.s.toArray⟩] 70) = w3:=⟨_,rfl⟩
           rw [hw3]
           have hb13 : Below w1.heap.size w1 w3:=by rw [← hw3];exact belr
           have B0:=(hb13.block _ hb01).trans k0
           have B1:=(hb13.block _ hb11).trans k1
           have hbr3:=hb1.trans (hb13.mono hz1)
           have hown3:=World.ownsRow.kept hown (row:=none) ⟨hbr3.os,hbr3.tape,hbr3.output,hbr3.size,fun k hk _ => hbr3.block k hk⟩ (Classical.em _)
           have hkids3:=hkids.grow (w':=w3) (fun b h1 h2 => ⟨h1,hbr3.block b h2⟩)
           have hbd : Below w.heap.size w w3:=hbr.trans (hbr3.mono (by omega))
           have hlt3 : w.heap.size + 1 < w3.heap.size:=lt_of_block B1
           clear hb1 hb13 hbr3 hb01 hb11 hz1 k0 k1 hbw b0 b1 b2 b3 b4 b5 bf hown hkids hB0 hB1 hw3 hlt1 HN
           refine (HOC.out _).mono ?_
           rintro e w4 ⟨p1,n1,c1,p2,n2,c2,z,rfl,hz1,rfl,hO,hb4⟩
           have hlt4 : w.heap.size + 1 < w4.heap.size:=by have:=hb4.size;omega
           have hb04 : w.heap.size < w4.heap.size:=by omega
           simp only [List.length_drop,Array.length_toList,show s.data.size = s.size from rfl] at hsh
           go_upto_region 12 with fail
           obtain ⟨w5,hw5⟩ : ∃ w5,w4.alloc (.cells #[.int .i64 o.kind,.int .i64 o.n,.int .i64 o.g,.string ⟨o.s.toArray⟩,.slice p1 n1 c1,.slice p2 n2 c2] 26) = w5:=⟨_,rfl⟩
           rw [hw5]
           have hb45 : Below w4.heap.size w4 w5:=by rw [← hw5];exact belr
           have GX : w5.heap[w4.heap.size]? = some (.cells #[.int .i64 o.kind,.int .i64 o.n,.int .i64 o.g,.string ⟨o.s.toArray⟩,.slice p1 n1 c1,.slice p2 n2 c2] 26 (0,0)):=by rw [← hw5];exact heap_new_at _ _ _ rfl
           obtain ⟨x0,x1,x2,x3,x4,x5,xf⟩:=six_of GX
           obtain ⟨b0,b1,b2,b3,b4,b5,bf⟩:=six_of ((hb45.block _ hlt4).trans ((hb4.block _ hlt3).trans B1))
           have hs5:=hb4.trans (hb45.mono hb4.size)
           have hO5:=hO.grow (S':=fun b => w3.heap.size ≤ b) (w':=w5) (fun b h1 h2 => ⟨h1,hb45.block b h2⟩)
           have hown5:=World.ownsRow.kept hown3 (row:=none) ⟨hs5.os,hs5.tape,hs5.output,hs5.size,fun k hk _ => hs5.block k hk⟩ (Classical.em _)
           have hlt5 : w.heap.size + 1 < w5.heap.size:=by have:=hb45.size;omega
           have hfar:=own_base hown5
           obtain ⟨i0,hi0,y0,y1,y2⟩:=info_parts Tryz.infoOb
           clear hw5 hb45 hO hb4 HOC
           go_wp2_with (at_builtin;go_must (refine wpList_append_lies _ rfl _ _ _ rfl (w.heap.size + 2) 26 i0 _ 6 88 Tryz.underlying24 hi0 y0 y1 y2 rfl (by omega) (.slice vp acc.length vc) acc.length css.flatten rfl (hown5.alloc _) ⟨w5.heap.size,0,none⟩ 1 1 (objCells o.kind o.n o.g o.s (.slice p1 n1 c1) (.slice p2 n2 c2)) rfl rfl (World.news_of_block (cs:=#[.int .i64 o.kind,.int .i64 o.n,.int .i64 o.g,.string ⟨o.s.toArray⟩,.slice p1 n1 c1,.slice p2 n2 c2]) (t:=26) (fr:=(0,0)) (heap_alloc_new w5 _)) (objCells_one _ _ _ _ _ _ _) (by omega) (by unfold maxLen;omega) (by omega) (by simp;omega) (w5.heap.size + 1) (by simp) ?_);intro gg cap w6 hown6 hgrow hat hlt6;have e5 : w6.cell? ⟨w.heap.size + 1,5,none⟩ = some (.slice vp acc.length vc):=(hgrow.cell_far ⟨w.heap.size + 1,5,none⟩ (by simp;omega) (by intro h;have h2 : w.heap.size + 2 ≤ w.heap.size + 1:=hfar _ h.symm;omega)).trans ((World.cell?_of_block (Below.heap_alloc _ _ _ (by show w.heap.size + 1 < _;omega))).trans b5);have ef : w6.frozen? ⟨w.heap.size + 1,5,none⟩ = false:=(hgrow.frozen_far ⟨w.heap.size + 1,5,none⟩ (by simp;omega) (by intro h;have h2 : w.heap.size + 2 ≤ w.heap.size + 1:=hfar _ h.symm;omega)).trans ((World.frozen?_of_block (Below.heap_alloc _ _ _ (by show w.heap.size + 1 < _;omega))).trans (bf 5)))
           go_roundw
           case rel => exact rarr_round s d fuel a0 z w w3 w5 w6 gg cap vp vc acc css o _ _ _ _ _ _ T B0 B1 hown3 hkids3 hO5 hs5 hbd hown6 hgrow hat hz1 (by omega) HX0 (by omega)
           case measure => simp [intOf];omega
         · skip
           go_wp2_with fail
           refine (HN.out _).mono ?_
           rintro e w1 ⟨rfl,hb1⟩
           have hz1:=hb1.size
           have hb01 : w.heap.size < w1.heap.size:=by omega
           have hb11 : w.heap.size + 1 < w1.heap.size:=by omega
           have k0:=(hb1.block _ (by omega)).trans hB0
           have k1:=(hb1.block _ (by omega)).trans hB1
           have hbw : Below w.heap.size w w1:=bel
           obtain ⟨b0,b1,b2,b3,b4,b5,bf⟩:=six_of k1
           go_wp2_with fail
           obtain ⟨w3,hw3⟩ : ∃ w3,w1.alloc (.cells #[.int .i64 t.kind,.int .i64 p,.int .i64 q,.int .i64 t.n,.string ⟨t.s.toArray⟩] 70) = w3:=⟨_,rfl⟩
           rw [hw3]
           have hb13 : Below w1.heap.size w1 w3:=by rw [← hw3];exact belr
           have B0:=(hb13.block _ hb01).trans k0
           have B1:=(hb13.block _ hb11).trans k1
           have hbr3:=hb1.trans (hb13.mono hz1)
           have hown3:=World.ownsRow.kept hown (row:=none) ⟨hbr3.os,hbr3.tape,hbr3.output,hbr3.size,fun k hk _ => hbr3.block k hk⟩ (Classical.em _)
           have hkids3:=hkids.grow (w':=w3) (fun b h1 h2 => ⟨h1,hbr3.block b h2⟩)
           have hbd : Below w.heap.size w w3:=hbr.trans (hbr3.mono (by omega))
           have hlt3 : w.heap.size + 1 < w3.heap.size:=lt_of_block B1
           clear hb1 hb13 hbr3 hb01 hb11 hz1 k0 k1 hbw b0 b1 b2 b3 b4 b5 bf hown hkids hB0 hB1 hw3 hlt1 HN
           refine (HOC.out _).mono ?_
           rintro e w4 ⟨p1,n1,c1,p2,n2,c2,z,rfl,hz1,rfl,hO,hb4⟩
           have hlt4 : w.heap.size + 1 < w4.heap.size:=by have:=hb4.size;omega
           have hb04 : w.heap.size < w4.heap.size:=by omega
           simp only [List.length_drop,Array.length_toList,show s.data.size = s.size from rfl] at hsh
           go_upto_region 12 with fail
           obtain ⟨w5,hw5⟩ : ∃ w5,w4.alloc (.cells #[.int .i64 o.kind,.int .i64 o.n,.int .i64 o.g,.string ⟨o.s.toArray⟩,.slice p1 n1 c1,.slice p2 n2 c2] 26) = w5:=⟨_,rfl⟩
           rw [hw5]
           have hb45 : Below w4.heap.size w4 w5:=by rw [← hw5];exact belr
           have GX : w5.heap[w4.heap.size]? = some (.cells #[.int .i64 o.kind,.int .i64 o.n,.int .i64 o.g,.string ⟨o.s.toArray⟩,.slice p1 n1 c1,.slice p2 n2 c2] 26 (0,0)):=by rw [← hw5];exact heap_new_at _ _ _ rfl
           obtain ⟨x0,x1,x2,x3,x4,x5,xf⟩:=six_of GX
           obtain ⟨b0,b1,b2,b3,b4,b5,bf⟩:=six_of ((hb45.block _ hlt4).trans ((hb4.block _ hlt3).trans B1))
           have hs5:=hb4.trans (hb45.mono hb4.size)
           have hO5:=hO.grow (S':=fun b => w3.heap.size ≤ b) (w':=w5) (fun b h1 h2 => ⟨h1,hb45.block b h2⟩)
           have hown5:=World.ownsRow.kept hown3 (row:=none) ⟨hs5.os,hs5.tape,hs5.output,hs5.size,fun k hk _ => hs5.block k hk⟩ (Classical.em _)
           have hlt5 : w.heap.size + 1 < w5.heap.size:=by have:=hb45.size;omega
           have hfar:=own_base hown5
           obtain ⟨i0,hi0,y0,y1,y2⟩:=info_parts Tryz.infoOb
           clear hw5 hb45 hO hb4 HOC
           go_wp2_with (at_builtin;go_must (refine wpList_append_lies _ rfl _ _ _ rfl (w.heap.size + 2) 26 i0 _ 6 88 Tryz.underlying24 hi0 y0 y1 y2 rfl (by omega) (.slice vp acc.length vc) acc.length css.flatten rfl (hown5.alloc _) ⟨w5.heap.size,0,none⟩ 1 1 (objCells o.kind o.n o.g o.s (.slice p1 n1 c1) (.slice p2 n2 c2)) rfl rfl (World.news_of_block (cs:=#[.int .i64 o.kind,.int .i64 o.n,.int .i64 o.g,.string ⟨o.s.toArray⟩,.slice p1 n1 c1,.slice p2 n2 c2]) (t:=26) (fr:=(0,0)) (heap_alloc_new w5 _)) (objCells_one _ _ _ _ _ _ _) (by omega) (by unfold maxLen;omega) (by omega) (by simp;omega) (w5.heap.size + 1) (by simp) ?_);intro gg cap w6 hown6 hgrow hat hlt6;have e5 : w6.cell? ⟨w.heap.size + 1,5,none⟩ = some (.slice vp acc.length vc):=(hgrow.cell_far ⟨w.heap.size + 1,5,none⟩ (by simp;omega) (by intro h;have h2 : w.heap.size + 2 ≤ w.heap.size + 1:=hfar _ h.symm;omega)).trans ((World.cell?_of_block (Below.heap_alloc _ _ _ (by show w.heap.size + 1 < _;omega))).trans b5);have ef : w6.frozen? ⟨w.heap.size + 1,5,none⟩ = false:=(hgrow.frozen_far ⟨w.heap.size + 1,5,none⟩ (by simp;omega) (by intro h;have h2 : w.heap.size + 2 ≤ w.heap.size + 1:=hfar _ h.symm;omega)).trans ((World.frozen?_of_block (Below.heap_alloc _ _ _ (by show w.heap.size + 1 < _;omega))).trans (bf 5)))
           go_roundw
           case rel => exact rarr_round s d fuel a0 z w w3 w5 w6 gg cap vp vc acc css o _ _ _ _ _ _ T B0 B1 hown3 hkids3 hO5 hs5 hbd hown6 hgrow hat hz1 (by omega) HX0 (by omega)
           case measure => simp [intOf];omega
end Go.Proofs.YtfgdhcemidlnfaaGreatDoor
