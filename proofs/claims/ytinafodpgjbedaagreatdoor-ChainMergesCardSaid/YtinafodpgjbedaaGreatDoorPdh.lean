/- Parts of the proof: CheckB VaA VaB CheckC. -/
import Derived.Test.YtinafodpgjbedaaGreatDoorPdCheckA
import Derived.Sort.Walk0
import Derived.Lib.IndexLaws
set_option linter.all false
set_option maxRecDepth 100000
set_option maxHeartbeats 8000000
namespace Go.Proofs.YtinafodpgjbedaaGreatDoor
open Go.RowKit Fo
theorem key_at {S : Nat → Prop} {w : World} {b off n c : Nat} {ks : List L} (h : KeysAt S w (.slice (some ⟨b, off, none⟩) n c) ks) (hn : ks.length = n) (k : Nat) (hk : k < n) :
   S b ∧ w.cell? ⟨b,off + k,none⟩ = some (.string ⟨(ks.getD k []).toArray⟩):=by
 rcases h with ⟨rfl,p,c',h1⟩ | ⟨b',off',c',h1,h2,h3⟩
 · simp at hn;omega
 · cases h1
   have hk' : k < ks.length:=by omega
   exact ⟨h2,by have:=h3 k hk';simpa [List.getD,hk'] using this⟩
theorem rowKinds {S : Nat → Prop} {d : Nat} {w : World} {b off n c : Nat} {os : List Ob} (h : RowAt S d w (.slice (some ⟨b, off, none⟩) n c) os) (hn : os.length = n) (k : Nat) (hk : k < n) :
   S b ∧ w.cell? ⟨b,off + k * 6,none⟩ = some (.int .i64 (os.getD k .zero).kind):=by
 obtain ⟨o,p1,n1,c1,p2,n2,c2,h1,h2,h3,h4,h5,_⟩:=row_kid h hn k hk
 rw [h1];exact ⟨h3,h5⟩
theorem keysB_false {o : Ob} {k : Nat} (h7 : o.kind = 7 ∨ o.kind = 9) (hk : k < o.keys.length) (h : keyAt o k = false) : keysB o = false:=by
 unfold keysB
 rw [if_neg (by omega),if_neg (by omega)]
 rw [Bool.and_eq_false_iff];right
 rw [List.all_eq_false]
 exact ⟨k,List.mem_range.2 hk,by simp [h]⟩
theorem less_no {x y : L} (h1 : Op.bytesLess x y = false) (h2 : (x == y) = false) : decide (y < x) = true:=by
 rw [bytesLess_eq] at h1
 have h1' : ¬ x < y:=by simpa using h1
 have h2' : ¬ x = y:=by simpa using h2
 rw [decide_eq_true_eq]
 rcases List.le_total x y with h | h
 · exact absurd (Classical.byContradiction fun h3 => h2' (List.le_antisymm h h3)) h1'
 · exact Classical.byContradiction fun h3 => h2' (List.le_antisymm h3 h)
theorem less_yes {x y : L} (h : Op.bytesLess x y = true ∨ x = y) : decide (y < x) = false:=by
 rw [decide_eq_false_iff_not]
 rcases h with h | rfl
 · rw [bytesLess_eq,decide_eq_true_eq] at h;exact List.lt_asymm h
 · exact List.lt_irrefl _
theorem keys_dict (S : Nat → Prop) (d : Nat) (o : Ob) (b1 f1 c1 b2 f2 c2 : Nat) (w : World) (hK : KeysAt S w (.slice (some ⟨b1,f1,none⟩) o.keys.length c1) o.keys) (hR : RowAt S d w (.slice (some ⟨b2,f2,none⟩) o.kids.length c2) o.kids) (hS : ∀ b,S b → b < w.heap.size) (hk : o.kind = 7) (hl : o.keys.length = o.kids.length) (hle : o.keys.length ≤ 140737488355328) (hx : ∀ x ∈ o.keys,x.length ≤ 140737488355328) : Calls Tryz.prog 116 #[.agg #[.int .i64 o.kind,.int .i64 o.n,.int .i64 o.g,.string ⟨o.s.toArray⟩,.slice (some ⟨b1,f1,none⟩) o.keys.length c1,.slice (some ⟨b2,f2,none⟩) o.kids.length c2]] w fun e w' => e = .returned (.bool (keysB o)) ∧ Below w.heap.size w w':=by
 obtain ⟨n,hn⟩ : ∃ n,o.keys.length = n:=⟨_,rfl⟩
 have HK:=Lh hK
 have HR:=Lh hR
 have HS:=Lh hS
 have HX:=Lh hx
 rw [← hl,hn]
 rw [hn] at hle
 have HN:=Lh (And.intro hn (hl.symm.trans hn))
 rw [hk]
 have HK0:=Lh hk
 clear hK hR hS hn hl hx hk
 go_enter Tryz.func116,Tryz.ntmps116
 go_wp2
 go_loopw [29] (fun i wr => ∃ k : Nat,k ≤ n ∧ i = .int .i64 k ∧ Below (w.heap.size + 1) (w.alloc (.cells #[.int .i64 7,.int .i64 o.n,.int .i64 o.g,.string ⟨o.s.toArray⟩,.slice (some ⟨b1,f1,none⟩) n c1,.slice (some ⟨b2,f2,none⟩) n c2] 36)) wr ∧ Hid (∀ j,j < k → keyAt o j = true)) (fun i _ => n - (intOf i).toNat)
 case atStart => exact ⟨0,Nat.zero_le _,rfl,bel,Lh (by intro j hj;omega)⟩
 case round =>
   obtain ⟨k,hk,rfl,hb,HA⟩:=hrel
   by_cases hlt : k < n
   · have hbw : Below w.heap.size w wr:=(show Below w.heap.size w (w.alloc _) from bel).trans (hb.mono (by omega))
     obtain ⟨s1,g1⟩:=key_at (HK.out.kept (fun b h => hbw.block b (HS.out b h))) rfl k (by rw [HN.out.1];exact hlt)
     obtain ⟨s2,g2⟩:=rowKinds (HR.out.kept (fun b h => hbw.block b (HS.out b h))) rfl k (by rw [HN.out.2];exact hlt)
     have hp : 0 < k → wr.cell? ⟨b1,f1 + (k - 1),none⟩ = some (.string ⟨(o.keys.getD (k - 1) []).toArray⟩):=fun h => (key_at (HK.out.kept (fun b h => hbw.block b (HS.out b h))) rfl (k - 1) (by rw [HN.out.1];omega)).2
     obtain ⟨x,hx⟩ : ∃ x,o.keys.getD k [] = x:=⟨_,rfl⟩
     obtain ⟨y,hy⟩ : ∃ y,o.keys.getD (k - 1) [] = y:=⟨_,rfl⟩
     obtain ⟨kk,hkk⟩ : ∃ kk,(o.kids.getD k .zero).kind = kk:=⟨_,rfl⟩
     rw [hx] at g1
     rw [hy] at hp
     rw [hkk] at g2
     have c0 : wr.cell? ⟨w.heap.size,0,none⟩ = some (.int .i64 7):=by rw [hb.cell (p:=⟨w.heap.size,0,none⟩) (by show w.heap.size < _;omega)];simp [World.cell?_alloc_at]
     have c4 : wr.cell? ⟨w.heap.size,4,none⟩ = some (.slice (some ⟨b1,f1,none⟩) n c1):=by rw [hb.cell (p:=⟨w.heap.size,4,none⟩) (by show w.heap.size < _;omega)];simp [World.cell?_alloc_at]
     have c5 : wr.cell? ⟨w.heap.size,5,none⟩ = some (.slice (some ⟨b2,f2,none⟩) n c2):=by rw [hb.cell (p:=⟨w.heap.size,5,none⟩) (by show w.heap.size < _;omega)];simp [World.cell?_alloc_at]
     have hxm : x.length ≤ 140737488355328:=by
       rw [← hx]; exact HX.out _ (by have : k < o.keys.length := by rw [HN.out.1]; exact hlt
                                     simp [List.getD,this])
     have HNM:=Lh (fun W => name_in' x W hxm)
     have HC:=Lh (show keyAt o k = (nameB x && (k == 0 || decide (y < x)) && !(x == wLength && o.kind == 9) && kk != 0) by unfold keyAt;rw [hx,hy,hkk])
     have HF:=Lh (fun h => keysB_false (o:=o) (k:=k) (by rw [HK0.out];decide) (by rw [HN.out.1];exact hlt) h)
     have hk9:=HK0.out
     rw [hk9] at HC
     clear hx hy hkk hxm hbw hk9
     cases hq : nameB x
     · rw [hq] at HC HNM
       have HF1:=Lh (HF.out (by rw [HC.out];simp))
       clear hp hq
       go_wp2_with (go_at_call 149;refine (HNM.out _).mono ?_;rintro e w1 ⟨rfl,rfl⟩)
       all_goals go_ret
       all_goals exact ⟨ret_bool HF1.out.symm,bel⟩
     · rw [hq] at HC HNM
       cases hle : (decide (0 < k) && (Op.bytesLess x y || x == y))
       · have hle2 : 0 < k → Op.bytesLess x y = false ∧ (x == y) = false:=fun h => by simpa [h] using hle
         have HC2:=Lh (show keyAt o k = (!(x == wLength && (7 : Int) == 9) && kk != 0) by
           rw [HC.out]
           by_cases h0 : k = 0
           · subst h0;simp
           · have:=hle2 (by omega)
             rw [less_no this.1 this.2];simp)
         clear hle HC
         have HZ0:=Lh (show kk = 0 ∨ ¬ kk = 0 from Classical.em _)
         by_cases hw : x = ([76,101,110,103,116,104] : L)
         · subst hw
           cases hz : (kk == 0)
           · have HZ:=Lh hz
             by_cases h0 : 0 < k
             · have hp':=hp h0
               obtain ⟨h1,h2⟩:=hle2 h0
               clear hp hle2
               go_wp2_with (go_at_call 149;refine (HNM.out _).mono ?_;rintro e w1 ⟨rfl,rfl⟩)
               go_roundw
               case rel => exact ⟨k + 1,by omega,by go_num,by exact hb,Lh (fun j hj => by
                 by_cases hjk : j < k
                 · exact HA.out j hjk
                 · have : j = k:=by omega
                   subst this
                   rw [HC2.out];have a2:=HZ.out;first | (simp [wLength];done) | (simp [wLength] at a2 ⊢;exact a2) | (simp [wLength,HW.out] at a2 ⊢;exact a2))⟩
               case measure => simp [intOf];omega
             · have hk0 : k = 0:=by omega
               subst hk0
               simp only [Nat.add_zero,Nat.zero_mul] at g1 g2
               clear hp hle2
               go_wp2_with (go_at_call 149;refine (HNM.out _).mono ?_;rintro e w1 ⟨rfl,rfl⟩)
               go_roundw
               case rel => exact ⟨1,by omega,by go_num,by exact hb,Lh (fun j hj => by
                 by_cases hjk : j < 0
                 · exact HA.out j hjk
                 · have : j = 0:=by omega
                   subst this
                   rw [HC2.out];have a2:=HZ.out;first | (simp [wLength];done) | (simp [wLength] at a2 ⊢;exact a2) | (simp [wLength,HW.out] at a2 ⊢;exact a2))⟩
               case measure => simp [intOf];omega
           · have HZ:=Lh hz
             by_cases h0 : 0 < k
             · have hp':=hp h0
               obtain ⟨h1,h2⟩:=hle2 h0
               clear hp hle2
               go_wp2_with (go_at_call 149;refine (HNM.out _).mono ?_;rintro e w1 ⟨rfl,rfl⟩)
               go_ret
               exact ⟨ret_bool (HF.out (by rw [HC2.out];have a2:=HZ.out;first | (simp [wLength];done) | (simp [wLength] at a2 ⊢;exact a2) | (simp [wLength,HW.out] at a2 ⊢;exact a2))).symm,bel⟩
             · have hk0 : k = 0:=by omega
               subst hk0
               simp only [Nat.add_zero,Nat.zero_mul] at g1 g2
               clear hp hle2
               go_wp2_with (go_at_call 149;refine (HNM.out _).mono ?_;rintro e w1 ⟨rfl,rfl⟩)
               go_ret
               exact ⟨ret_bool (HF.out (by rw [HC2.out];have a2:=HZ.out;first | (simp [wLength];done) | (simp [wLength] at a2 ⊢;exact a2) | (simp [wLength,HW.out] at a2 ⊢;exact a2))).symm,bel⟩
         · have hw' : (x == ([76,101,110,103,116,104] : L)) = false:=by simpa using hw
           have HW:=Lh hw'
           cases hz : (kk == 0)
           · have HZ:=Lh hz
             by_cases h0 : 0 < k
             · have hp':=hp h0
               obtain ⟨h1,h2⟩:=hle2 h0
               clear hp hle2
               go_wp2_with (go_at_call 149;refine (HNM.out _).mono ?_;rintro e w1 ⟨rfl,rfl⟩)
               go_roundw
               case rel => exact ⟨k + 1,by omega,by go_num,by exact hb,Lh (fun j hj => by
                 by_cases hjk : j < k
                 · exact HA.out j hjk
                 · have : j = k:=by omega
                   subst this
                   rw [HC2.out];have a2:=HZ.out;first | (simp [wLength];done) | (simp [wLength] at a2 ⊢;exact a2) | (simp [wLength,HW.out] at a2 ⊢;exact a2))⟩
               case measure => simp [intOf];omega
             · have hk0 : k = 0:=by omega
               subst hk0
               simp only [Nat.add_zero,Nat.zero_mul] at g1 g2
               clear hp hle2
               go_wp2_with (go_at_call 149;refine (HNM.out _).mono ?_;rintro e w1 ⟨rfl,rfl⟩)
               go_roundw
               case rel => exact ⟨1,by omega,by go_num,by exact hb,Lh (fun j hj => by
                 by_cases hjk : j < 0
                 · exact HA.out j hjk
                 · have : j = 0:=by omega
                   subst this
                   rw [HC2.out];have a2:=HZ.out;first | (simp [wLength];done) | (simp [wLength] at a2 ⊢;exact a2) | (simp [wLength,HW.out] at a2 ⊢;exact a2))⟩
               case measure => simp [intOf];omega
           · have HZ:=Lh hz
             by_cases h0 : 0 < k
             · have hp':=hp h0
               obtain ⟨h1,h2⟩:=hle2 h0
               clear hp hle2
               go_wp2_with (go_at_call 149;refine (HNM.out _).mono ?_;rintro e w1 ⟨rfl,rfl⟩)
               go_ret
               exact ⟨ret_bool (HF.out (by rw [HC2.out];have a2:=HZ.out;first | (simp [wLength];done) | (simp [wLength] at a2 ⊢;exact a2) | (simp [wLength,HW.out] at a2 ⊢;exact a2))).symm,bel⟩
             · have hk0 : k = 0:=by omega
               subst hk0
               simp only [Nat.add_zero,Nat.zero_mul] at g1 g2
               clear hp hle2
               go_wp2_with (go_at_call 149;refine (HNM.out _).mono ?_;rintro e w1 ⟨rfl,rfl⟩)
               go_ret
               exact ⟨ret_bool (HF.out (by rw [HC2.out];have a2:=HZ.out;first | (simp [wLength];done) | (simp [wLength] at a2 ⊢;exact a2) | (simp [wLength,HW.out] at a2 ⊢;exact a2))).symm,bel⟩
       · have h0 : 0 < k:=by simp at hle;exact hle.1
         have h1 : Op.bytesLess x y = true ∨ x = y:=by simp at hle;exact hle.2
         have HF1 := Lib.hid (HF.out (by rw [HC.out, less_yes h1]; have : k ≠ 0 := by omega
                                         simp [this]))
         have hp':=hp h0
         clear hp hle
         cases hb1 : Op.bytesLess x y
         · have hxy : x = y := by rcases h1 with h | h
                                  · rw [hb1] at h;cases h
                                  · exact h
           subst hxy
           clear h1
           go_wp2_with (go_at_call 149;refine (HNM.out _).mono ?_;rintro e w1 ⟨rfl,rfl⟩)
           go_ret
           exact ⟨ret_bool HF1.out.symm,bel⟩
         · clear h1
           go_wp2_with (go_at_call 149;refine (HNM.out _).mono ?_;rintro e w1 ⟨rfl,rfl⟩)
           go_ret
           exact ⟨ret_bool HF1.out.symm,bel⟩
   · have HE := Lib.hid (show keysB o = true by
       have hkn : k = n:=by omega
       unfold keysB
       rw [if_neg (by rw [HK0.out];decide),if_neg (by rw [HK0.out];decide),HN.out.1,HN.out.2]
       simp only [beq_self_eq_true,Bool.true_and,List.all_eq_true,List.mem_range]
       intro j hj;exact HA.out j (by omega))
     go_wp2
     go_ret
     exact ⟨ret_bool HE.out.symm,bel⟩
theorem keys_stream (S : Nat → Prop) (d : Nat) (o : Ob) (b1 f1 c1 b2 f2 c2 : Nat) (w : World) (hK : KeysAt S w (.slice (some ⟨b1,f1,none⟩) o.keys.length c1) o.keys) (hR : RowAt S d w (.slice (some ⟨b2,f2,none⟩) o.kids.length c2) o.kids) (hS : ∀ b,S b → b < w.heap.size) (hk : o.kind = 9) (hl : o.keys.length = o.kids.length) (hle : o.keys.length ≤ 140737488355328) (hx : ∀ x ∈ o.keys,x.length ≤ 140737488355328) : Calls Tryz.prog 116 #[.agg #[.int .i64 o.kind,.int .i64 o.n,.int .i64 o.g,.string ⟨o.s.toArray⟩,.slice (some ⟨b1,f1,none⟩) o.keys.length c1,.slice (some ⟨b2,f2,none⟩) o.kids.length c2]] w fun e w' => e = .returned (.bool (keysB o)) ∧ Below w.heap.size w w':=by
 obtain ⟨n,hn⟩ : ∃ n,o.keys.length = n:=⟨_,rfl⟩
 have HK:=Lh hK
 have HR:=Lh hR
 have HS:=Lh hS
 have HX:=Lh hx
 rw [← hl,hn]
 rw [hn] at hle
 have HN:=Lh (And.intro hn (hl.symm.trans hn))
 rw [hk]
 have HK0:=Lh hk
 clear hK hR hS hn hl hx hk
 go_enter Tryz.func116,Tryz.ntmps116
 go_wp2
 go_loopw [29] (fun i wr => ∃ k : Nat,k ≤ n ∧ i = .int .i64 k ∧ Below (w.heap.size + 1) (w.alloc (.cells #[.int .i64 9,.int .i64 o.n,.int .i64 o.g,.string ⟨o.s.toArray⟩,.slice (some ⟨b1,f1,none⟩) n c1,.slice (some ⟨b2,f2,none⟩) n c2] 36)) wr ∧ Hid (∀ j,j < k → keyAt o j = true)) (fun i _ => n - (intOf i).toNat)
 case atStart => exact ⟨0,Nat.zero_le _,rfl,bel,Lh (by intro j hj;omega)⟩
 case round =>
   obtain ⟨k,hk,rfl,hb,HA⟩:=hrel
   by_cases hlt : k < n
   · have hbw : Below w.heap.size w wr:=(show Below w.heap.size w (w.alloc _) from bel).trans (hb.mono (by omega))
     obtain ⟨s1,g1⟩:=key_at (HK.out.kept (fun b h => hbw.block b (HS.out b h))) rfl k (by rw [HN.out.1];exact hlt)
     obtain ⟨s2,g2⟩:=rowKinds (HR.out.kept (fun b h => hbw.block b (HS.out b h))) rfl k (by rw [HN.out.2];exact hlt)
     have hp : 0 < k → wr.cell? ⟨b1,f1 + (k - 1),none⟩ = some (.string ⟨(o.keys.getD (k - 1) []).toArray⟩):=fun h => (key_at (HK.out.kept (fun b h => hbw.block b (HS.out b h))) rfl (k - 1) (by rw [HN.out.1];omega)).2
     obtain ⟨x,hx⟩ : ∃ x,o.keys.getD k [] = x:=⟨_,rfl⟩
     obtain ⟨y,hy⟩ : ∃ y,o.keys.getD (k - 1) [] = y:=⟨_,rfl⟩
     obtain ⟨kk,hkk⟩ : ∃ kk,(o.kids.getD k .zero).kind = kk:=⟨_,rfl⟩
     rw [hx] at g1
     rw [hy] at hp
     rw [hkk] at g2
     have c0 : wr.cell? ⟨w.heap.size,0,none⟩ = some (.int .i64 9):=by rw [hb.cell (p:=⟨w.heap.size,0,none⟩) (by show w.heap.size < _;omega)];simp [World.cell?_alloc_at]
     have c4 : wr.cell? ⟨w.heap.size,4,none⟩ = some (.slice (some ⟨b1,f1,none⟩) n c1):=by rw [hb.cell (p:=⟨w.heap.size,4,none⟩) (by show w.heap.size < _;omega)];simp [World.cell?_alloc_at]
     have c5 : wr.cell? ⟨w.heap.size,5,none⟩ = some (.slice (some ⟨b2,f2,none⟩) n c2):=by rw [hb.cell (p:=⟨w.heap.size,5,none⟩) (by show w.heap.size < _;omega)];simp [World.cell?_alloc_at]
     have hxm : x.length ≤ 140737488355328:=by
       rw [← hx]; exact HX.out _ (by have : k < o.keys.length := by rw [HN.out.1]; exact hlt
                                     simp [List.getD,this])
     have HNM:=Lh (fun W => name_in' x W hxm)
     have HC:=Lh (show keyAt o k = (nameB x && (k == 0 || decide (y < x)) && !(x == wLength && o.kind == 9) && kk != 0) by unfold keyAt;rw [hx,hy,hkk])
     have HF:=Lh (fun h => keysB_false (o:=o) (k:=k) (by rw [HK0.out];decide) (by rw [HN.out.1];exact hlt) h)
     have hk9:=HK0.out
     rw [hk9] at HC
     clear hx hy hkk hxm hbw hk9
     cases hq : nameB x
     · rw [hq] at HC HNM
       have HF1:=Lh (HF.out (by rw [HC.out];simp))
       clear hp hq
       go_wp2_with (go_at_call 149;refine (HNM.out _).mono ?_;rintro e w1 ⟨rfl,rfl⟩)
       all_goals go_ret
       all_goals exact ⟨ret_bool HF1.out.symm,bel⟩
     · rw [hq] at HC HNM
       cases hle : (decide (0 < k) && (Op.bytesLess x y || x == y))
       · have hle2 : 0 < k → Op.bytesLess x y = false ∧ (x == y) = false:=fun h => by simpa [h] using hle
         have HC2:=Lh (show keyAt o k = (!(x == wLength && (9 : Int) == 9) && kk != 0) by
           rw [HC.out]
           by_cases h0 : k = 0
           · subst h0;simp
           · have:=hle2 (by omega)
             rw [less_no this.1 this.2];simp)
         clear hle HC
         have HZ0:=Lh (show kk = 0 ∨ ¬ kk = 0 from Classical.em _)
         by_cases hw : x = ([76,101,110,103,116,104] : L)
         · subst hw
           have HZ:=HZ0
           by_cases h0 : 0 < k
           · have hp':=hp h0
             obtain ⟨h1,h2⟩:=hle2 h0
             clear hp hle2
             go_wp2_with (go_at_call 149;refine (HNM.out _).mono ?_;rintro e w1 ⟨rfl,rfl⟩)
             go_ret
             exact ⟨ret_bool (HF.out (by rw [HC2.out];have a2:=HZ.out;first | (simp [wLength];done) | (simp [wLength] at a2 ⊢;exact a2) | (simp [wLength,HW.out] at a2 ⊢;exact a2))).symm,bel⟩
           · have hk0 : k = 0:=by omega
             subst hk0
             simp only [Nat.add_zero,Nat.zero_mul] at g1 g2
             clear hp hle2
             go_wp2_with (go_at_call 149;refine (HNM.out _).mono ?_;rintro e w1 ⟨rfl,rfl⟩)
             go_ret
             exact ⟨ret_bool (HF.out (by rw [HC2.out];have a2:=HZ.out;first | (simp [wLength];done) | (simp [wLength] at a2 ⊢;exact a2) | (simp [wLength,HW.out] at a2 ⊢;exact a2))).symm,bel⟩
         · have hw' : (x == ([76,101,110,103,116,104] : L)) = false:=by simpa using hw
           have HW:=Lh hw'
           cases hz : (kk == 0)
           · have HZ:=Lh hz
             by_cases h0 : 0 < k
             · have hp':=hp h0
               obtain ⟨h1,h2⟩:=hle2 h0
               clear hp hle2
               go_wp2_with (go_at_call 149;refine (HNM.out _).mono ?_;rintro e w1 ⟨rfl,rfl⟩)
               go_roundw
               case rel => exact ⟨k + 1,by omega,by go_num,by exact hb,Lh (fun j hj => by
                 by_cases hjk : j < k
                 · exact HA.out j hjk
                 · have : j = k:=by omega
                   subst this
                   rw [HC2.out];have a2:=HZ.out;first | (simp [wLength];done) | (simp [wLength] at a2 ⊢;exact a2) | (simp [wLength,HW.out] at a2 ⊢;exact a2))⟩
               case measure => simp [intOf];omega
             · have hk0 : k = 0:=by omega
               subst hk0
               simp only [Nat.add_zero,Nat.zero_mul] at g1 g2
               clear hp hle2
               go_wp2_with (go_at_call 149;refine (HNM.out _).mono ?_;rintro e w1 ⟨rfl,rfl⟩)
               go_roundw
               case rel => exact ⟨1,by omega,by go_num,by exact hb,Lh (fun j hj => by
                 by_cases hjk : j < 0
                 · exact HA.out j hjk
                 · have : j = 0:=by omega
                   subst this
                   rw [HC2.out];have a2:=HZ.out;first | (simp [wLength];done) | (simp [wLength] at a2 ⊢;exact a2) | (simp [wLength,HW.out] at a2 ⊢;exact a2))⟩
               case measure => simp [intOf];omega
           · have HZ:=Lh hz
             by_cases h0 : 0 < k
             · have hp':=hp h0
               obtain ⟨h1,h2⟩:=hle2 h0
               clear hp hle2
               go_wp2_with (go_at_call 149;refine (HNM.out _).mono ?_;rintro e w1 ⟨rfl,rfl⟩)
               go_ret
               exact ⟨ret_bool (HF.out (by rw [HC2.out];have a2:=HZ.out;first | (simp [wLength];done) | (simp [wLength] at a2 ⊢;exact a2) | (simp [wLength,HW.out] at a2 ⊢;exact a2))).symm,bel⟩
             · have hk0 : k = 0:=by omega
               subst hk0
               simp only [Nat.add_zero,Nat.zero_mul] at g1 g2
               clear hp hle2
               go_wp2_with (go_at_call 149;refine (HNM.out _).mono ?_;rintro e w1 ⟨rfl,rfl⟩)
               go_ret
               exact ⟨ret_bool (HF.out (by rw [HC2.out];have a2:=HZ.out;first | (simp [wLength];done) | (simp [wLength] at a2 ⊢;exact a2) | (simp [wLength,HW.out] at a2 ⊢;exact a2))).symm,bel⟩
       · have h0 : 0 < k:=by simp at hle;exact hle.1
         have h1 : Op.bytesLess x y = true ∨ x = y:=by simp at hle;exact hle.2
         have HF1 := Lib.hid (HF.out (by rw [HC.out, less_yes h1]; have : k ≠ 0 := by omega
                                         simp [this]))
         have hp':=hp h0
         clear hp hle
         cases hb1 : Op.bytesLess x y
         · have hxy : x = y := by rcases h1 with h | h
                                  · rw [hb1] at h;cases h
                                  · exact h
           subst hxy
           clear h1
           go_wp2_with (go_at_call 149;refine (HNM.out _).mono ?_;rintro e w1 ⟨rfl,rfl⟩)
           go_ret
           exact ⟨ret_bool HF1.out.symm,bel⟩
         · clear h1
           go_wp2_with (go_at_call 149;refine (HNM.out _).mono ?_;rintro e w1 ⟨rfl,rfl⟩)
           go_ret
           exact ⟨ret_bool HF1.out.symm,bel⟩
   · have HE := Lib.hid (show keysB o = true by
       have hkn : k = n:=by omega
       unfold keysB
       rw [if_neg (by rw [HK0.out];decide),if_neg (by rw [HK0.out];decide),HN.out.1,HN.out.2]
       simp only [beq_self_eq_true,Bool.true_and,List.all_eq_true,List.mem_range]
       intro j hj;exact HA.out j (by omega))
     go_wp2
     go_ret
     exact ⟨ret_bool HE.out.symm,bel⟩
theorem keys_name (o : Ob) (p1 p2 : Option Addr) (c1 c2 : Nat) (w : World) (hk : o.kind = 5) (hx : o.s.length ≤ 140737488355328) :
   Calls Tryz.prog 116 #[.agg #[.int .i64 o.kind,.int .i64 o.n,.int .i64 o.g,.string ⟨o.s.toArray⟩,.slice p1 o.keys.length c1,.slice p2 o.kids.length c2]] w fun e w' => e = .returned (.bool (keysB o)) ∧ Below w.heap.size w w':=by
 have HC:=Lh (show keysB o = nameB o.s by unfold keysB;rw [if_pos hk])
 rw [hk]
 clear hk
 have HNM:=Lh (fun W => name_in' o.s W hx)
 go_enter Tryz.func116,Tryz.ntmps116
 go_wp2_with (go_at_call 149;refine (HNM.out _).mono ?_;rintro e w1 ⟨rfl,rfl⟩)
 go_ret
 exact ⟨ret_bool HC.out.symm,bel⟩
theorem keys_other (o : Ob) (p1 p2 : Option Addr) (c1 c2 : Nat) (w : World) (h5 : o.kind ≠ 5) (h7 : o.kind ≠ 7) (h9 : o.kind ≠ 9) :
   Calls Tryz.prog 116 #[.agg #[.int .i64 o.kind,.int .i64 o.n,.int .i64 o.g,.string ⟨o.s.toArray⟩,.slice p1 o.keys.length c1,.slice p2 o.kids.length c2]] w fun e w' => e = .returned (.bool (keysB o)) ∧ Below w.heap.size w w':=by
 have HC:=Lh (show keysB o = true by unfold keysB;rw [if_neg h5,if_pos ⟨h7,h9⟩])
 have e5 : (o.kind == 5) = false:=by simpa using h5
 have e7 : (o.kind != 7) = true:=by simpa using h7
 have e9 : (o.kind != 9) = true:=by simpa using h9
 clear h5 h7 h9
 go_enter Tryz.func116,Tryz.ntmps116
 go_wp2
 go_ret
 exact ⟨ret_bool HC.out.symm,bel⟩
theorem keys_dif (o : Ob) (p1 p2 : Option Addr) (c1 c2 : Nat) (w : World) (h : o.kind = 7 ∨ o.kind = 9) (hl : o.keys.length ≠ o.kids.length) :
   Calls Tryz.prog 116 #[.agg #[.int .i64 o.kind,.int .i64 o.n,.int .i64 o.g,.string ⟨o.s.toArray⟩,.slice p1 o.keys.length c1,.slice p2 o.kids.length c2]] w fun e w' => e = .returned (.bool (keysB o)) ∧ Below w.heap.size w w':=by
 rcases h with hk | hk
 ·
   have HC:=Lh (show keysB o = false by unfold keysB;rw [if_neg (by omega),if_neg (by omega)];simp [hl])
   rw [hk]
   clear hk
   have hl' : ((o.keys.length : Int) != (o.kids.length : Int)) = true:=by simp;omega
   have hl2 : ¬ o.keys.length = o.kids.length:=hl
   obtain ⟨n1,hn1⟩ : ∃ n,o.keys.length = n:=⟨_,rfl⟩
   obtain ⟨n2,hn2⟩ : ∃ n,o.kids.length = n:=⟨_,rfl⟩
   rw [hn1,hn2] at hl' hl2
   rw [hn1,hn2]
   clear hn1 hn2 hl
   go_enter Tryz.func116,Tryz.ntmps116
   go_wp2
   go_ret
   exact ⟨ret_bool HC.out.symm,bel⟩
 ·
   have HC:=Lh (show keysB o = false by unfold keysB;rw [if_neg (by omega),if_neg (by omega)];simp [hl])
   rw [hk]
   clear hk
   have hl' : ((o.keys.length : Int) != (o.kids.length : Int)) = true:=by simp;omega
   have hl2 : ¬ o.keys.length = o.kids.length:=hl
   obtain ⟨n1,hn1⟩ : ∃ n,o.keys.length = n:=⟨_,rfl⟩
   obtain ⟨n2,hn2⟩ : ∃ n,o.kids.length = n:=⟨_,rfl⟩
   rw [hn1,hn2] at hl' hl2
   rw [hn1,hn2]
   clear hn1 hn2 hl
   go_enter Tryz.func116,Tryz.ntmps116
   go_wp2
   go_ret
   exact ⟨ret_bool HC.out.symm,bel⟩
theorem keys_nil (o : Ob) (p1 p2 : Option Addr) (c1 c2 : Nat) (w : World) (h : o.kind = 7 ∨ o.kind = 9) (h1 : o.keys.length = 0) (h2 : o.kids.length = 0) :
   Calls Tryz.prog 116 #[.agg #[.int .i64 o.kind,.int .i64 o.n,.int .i64 o.g,.string ⟨o.s.toArray⟩,.slice p1 o.keys.length c1,.slice p2 o.kids.length c2]] w fun e w' => e = .returned (.bool (keysB o)) ∧ Below w.heap.size w w':=by
 rcases h with hk | hk
 ·
   have HC:=Lh (show keysB o = true by unfold keysB;rw [if_neg (by omega),if_neg (by omega),h1,h2];simp)
   rw [hk]
   clear hk
   rw [h1,h2]
   clear h1 h2
   go_enter Tryz.func116,Tryz.ntmps116
   go_wp2
   refine wp_loop_rounds 1 ?_
   rw [rounds_succ]
   go_wp2
   go_ret
   exact ⟨ret_bool HC.out.symm,bel⟩
 ·
   have HC:=Lh (show keysB o = true by unfold keysB;rw [if_neg (by omega),if_neg (by omega),h1,h2];simp)
   rw [hk]
   clear hk
   rw [h1,h2]
   clear h1 h2
   go_enter Tryz.func116,Tryz.ntmps116
   go_wp2
   refine wp_loop_rounds 1 ?_
   rw [rounds_succ]
   go_wp2
   go_ret
   exact ⟨ret_bool HC.out.symm,bel⟩
theorem keys_in (S : Nat → Prop) (d : Nat) (o : Ob) (kv dv : Value) (w : World) (hK : KeysAt S w kv o.keys) (hR : RowAt S d w dv o.kids)
   (hS : ∀ b,S b → b < w.heap.size) (hle : o.keys.length ≤ 140737488355328) (hx : ∀ x ∈ o.keys,x.length ≤ 140737488355328) (hs : o.s.length ≤ 140737488355328) :
   Calls Tryz.prog 116 #[.agg #[.int .i64 o.kind,.int .i64 o.n,.int .i64 o.g,.string ⟨o.s.toArray⟩,kv,dv]] w fun e w' => e = .returned (.bool (keysB o)) ∧ Below w.heap.size w w':=by
 have a1 : ∃ p c,kv = .slice p o.keys.length c:=by
   rcases hK with ⟨e,p,c,h⟩ | ⟨b,o,c,h,_⟩
   · exact ⟨_,_,by rw [e];exact h⟩
   · exact ⟨_,_,h⟩
 have a2 : ∃ p c,dv = .slice p o.kids.length c:=by
   rcases hR with ⟨e,p,c,h⟩ | ⟨b,o,c,h,_⟩
   · exact ⟨_,_,by rw [e];exact h⟩
   · exact ⟨_,_,h⟩
 by_cases h5 : o.kind = 5
 · obtain ⟨p1,c1,rfl⟩:=a1
   obtain ⟨p2,c2,rfl⟩:=a2
   exact keys_name o p1 p2 c1 c2 w h5 hs
 by_cases h79 : o.kind = 7 ∨ o.kind = 9
 · by_cases hl : o.keys.length = o.kids.length
   · by_cases h0 : o.keys.length = 0
     · obtain ⟨p1,c1,rfl⟩:=a1
       obtain ⟨p2,c2,rfl⟩:=a2
       exact keys_nil o p1 p2 c1 c2 w h79 h0 (by omega)
     · have hK':=hK
       have hR':=hR
       rcases hK with ⟨e,_⟩ | ⟨b1,f1,c1,rfl,_⟩
       · rw [e] at h0;exact absurd rfl h0
       · rcases hR with ⟨e,_⟩ | ⟨b2,f2,c2,rfl,_⟩
         · rw [e] at hl;simp at hl;simp [hl] at h0
         · rcases h79 with h | h
           · exact keys_dict S d o b1 f1 c1 b2 f2 c2 w hK' hR' hS h hl hle hx
           · exact keys_stream S d o b1 f1 c1 b2 f2 c2 w hK' hR' hS h hl hle hx
   · obtain ⟨p1,c1,rfl⟩:=a1
     obtain ⟨p2,c2,rfl⟩:=a2
     exact keys_dif o p1 p2 c1 c2 w h79 hl
 · obtain ⟨p1,c1,rfl⟩:=a1
   obtain ⟨p2,c2,rfl⟩:=a2
   exact keys_other o p1 p2 c1 c2 w h5 (by omega) (by omega)
open Go.RowKit Fo
theorem vmust_yes (k : Int) (w : World) : Calls Tryz.prog 107 #[.bool true,.int .i64 k] w fun e w' => e = .returned (.tuple #[]) ∧ w' = w:=by
 go_enter Tryz.func107,Tryz.ntmps107
 go_wp2
 go_end0
 exact ⟨rfl,rfl⟩
theorem vmust_no (k : Int) (w : World) : Calls Tryz.prog 107 #[.bool false,.int .i64 k] w fun e w' => e = (.panicked [{ v:=.iface 167 (.agg #[.int .i64 k]),recovered:=false }]) ∧ w' = w:=by
 go_enter Tryz.func107,Tryz.ntmps107
 go_wp2
 exact ⟨rfl,rfl,rfl⟩
theorem within_in (n a b : Int) (w : World) : Calls Tryz.prog 145 #[.int .i64 n,.int .i64 a,.int .i64 b] w fun e w' => e = .returned (.bool (decide (a ≤ n) && decide (n ≤ b))) ∧ w' = w:=by
 go_enter Tryz.func145,Tryz.ntmps145
 go_wp2
 all_goals go_ret
 all_goals exact ⟨ret_bool (by simp_all;try omega),rfl⟩
theorem withinI_in (n a b : Int) (w : World) : Calls Tryz.prog 146 #[.int .i64 n,.int .i64 a,.int .i64 b] w fun e w' => e = .returned (.bool (decide (a ≤ n) && decide (n ≤ b))) ∧ w' = w:=by
 go_enter Tryz.func146,Tryz.ntmps146
 go_wp2
 all_goals go_ret
 all_goals exact ⟨ret_bool (by simp_all;try omega),rfl⟩
theorem zero_ix (l : L) : decide (Lib.indexByte l 0 < 0) = l.all (· != 0):=by
 cases h : l.all (· != 0)
 · rw [decide_eq_false_iff_not]
   intro hlt
   have hge:=Lib.indexByte_ge l 0
   have hn:=Lib.indexByte_none (show Lib.indexByte l 0 = -1 by omega)
   rw [List.all_eq_false] at h
   obtain ⟨x,hx,hx0⟩:=h
   obtain ⟨k,hk,rfl⟩:=List.mem_iff_getElem.1 hx
   refine hn k ?_
   rw [List.getElem?_eq_getElem hk]
   simp at hx0
   rw [hx0]
 · rw [decide_eq_true_eq]
   apply Classical.byContradiction
   intro hnl
   obtain ⟨o,ho⟩ : ∃ o : Nat,Lib.indexByte l 0 = o:=⟨(Lib.indexByte l 0).toNat,by omega⟩
   have:=(Lib.indexByte_some ho).1
   obtain ⟨hlt,he⟩:=List.getElem?_eq_some_iff.1 this
   rw [List.all_eq_true] at h
   have:=h _ (List.getElem_mem hlt)
   rw [he] at this
   simp at this
theorem vkey_in (x : L) (hx : x.length ≤ 140737488355328) (w : World) : Calls Tryz.prog 111 #[.string ⟨x.toArray⟩] w fun e w' => e = .returned (.bool (nameB x)) ∧ w' = w:=by
 have H:=Lh (show nameB x = (decide (x.length ≤ 127) && decide (Lib.indexByte x 0 < 0)) by rw [zero_ix,Bool.and_comm];rfl)
 by_cases h : x.length ≤ 127
 · have d1 : decide ((x.length : Int) ≤ 127) = true:=by simp;omega
   have HR:=Lh (show nameB x = decide (Lib.indexByte x 0 < 0) by rw [H.out,decide_eq_true h,Bool.true_and])
   clear h hx
   go_enter Tryz.func111,Tryz.ntmps111
   go_wp2_with (go_at_call 147;refine (Tryz.strings_IndexByte _ _ _).mono ?_;rintro e w' ⟨rfl,rfl⟩)
   go_ret
   exact ⟨ret_bool (by rw [HR.out]),rfl⟩
 · have d1 : decide ((x.length : Int) ≤ 127) = false:=by simp;omega
   have HR:=Lh (show nameB x = false by rw [H.out,decide_eq_false h,Bool.false_and])
   clear h hx
   go_enter Tryz.func111,Tryz.ntmps111
   go_wp2
   go_ret
   exact ⟨ret_bool HR.out.symm,rfl⟩
def usedV (K : Int) : Bool × Bool × Bool × Bool × Bool × Bool :=
 if K = 0 then (false,false,false,false,false,true)
 else if K = 1 ∨ K = 2 ∨ K = 3 then (true,false,false,false,false,true)
 else if K = 4 ∨ K = 5 then (false,false,true,false,false,true)
 else if K = 6 then (false,false,false,false,true,true)
 else if K = 7 then (false,false,false,true,true,true)
 else if K = 8 then (true,true,false,false,false,true)
 else if K = 9 then (false,false,true,true,true,true)
 else (false,false,false,false,false,false)
def usedR (u : Bool × Bool × Bool × Bool × Bool × Bool) : Value:=.tuple #[.agg #[.bool u.1,.bool u.2.1,.bool u.2.2.1,.bool u.2.2.2.1,.bool u.2.2.2.2.1],.bool u.2.2.2.2.2]
theorem used_in (K : Int) (w : World) : Calls Tryz.prog 108 #[.int .i64 K] w fun e w' => e = .returned (usedR (usedV K)) ∧ Below w.heap.size w w':=by
 by_cases h0 : K = 0
 · subst h0
   go_enter Tryz.func108,Tryz.ntmps108
   go_wp2
   refine bodyPost_ret (v:=usedR (false,false,false,false,false,true)) (by simp [results,Tryz.results108,go_sem,usedR]) rfl ⟨rfl,bel⟩
 by_cases h1 : K = 1
 · subst h1
   go_enter Tryz.func108,Tryz.ntmps108
   go_wp2
   refine bodyPost_ret (v:=usedR (true,false,false,false,false,true)) (by simp [results,Tryz.results108,go_sem,usedR]) rfl ⟨rfl,bel⟩
 by_cases h2 : K = 2
 · subst h2
   go_enter Tryz.func108,Tryz.ntmps108
   go_wp2
   refine bodyPost_ret (v:=usedR (true,false,false,false,false,true)) (by simp [results,Tryz.results108,go_sem,usedR]) rfl ⟨rfl,bel⟩
 by_cases h3 : K = 3
 · subst h3
   go_enter Tryz.func108,Tryz.ntmps108
   go_wp2
   refine bodyPost_ret (v:=usedR (true,false,false,false,false,true)) (by simp [results,Tryz.results108,go_sem,usedR]) rfl ⟨rfl,bel⟩
 by_cases h4 : K = 4
 · subst h4
   go_enter Tryz.func108,Tryz.ntmps108
   go_wp2
   refine bodyPost_ret (v:=usedR (false,false,true,false,false,true)) (by simp [results,Tryz.results108,go_sem,usedR]) rfl ⟨rfl,bel⟩
 by_cases h5 : K = 5
 · subst h5
   go_enter Tryz.func108,Tryz.ntmps108
   go_wp2
   refine bodyPost_ret (v:=usedR (false,false,true,false,false,true)) (by simp [results,Tryz.results108,go_sem,usedR]) rfl ⟨rfl,bel⟩
 by_cases h6 : K = 6
 · subst h6
   go_enter Tryz.func108,Tryz.ntmps108
   go_wp2
   refine bodyPost_ret (v:=usedR (false,false,false,false,true,true)) (by simp [results,Tryz.results108,go_sem,usedR]) rfl ⟨rfl,bel⟩
 by_cases h7 : K = 7
 · subst h7
   go_enter Tryz.func108,Tryz.ntmps108
   go_wp2
   refine bodyPost_ret (v:=usedR (false,false,false,true,true,true)) (by simp [results,Tryz.results108,go_sem,usedR]) rfl ⟨rfl,bel⟩
 by_cases h8 : K = 8
 · subst h8
   go_enter Tryz.func108,Tryz.ntmps108
   go_wp2
   refine bodyPost_ret (v:=usedR (true,true,false,false,false,true)) (by simp [results,Tryz.results108,go_sem,usedR]) rfl ⟨rfl,bel⟩
 by_cases h9 : K = 9
 · subst h9
   go_enter Tryz.func108,Tryz.ntmps108
   go_wp2
   refine bodyPost_ret (v:=usedR (false,false,true,true,true,true)) (by simp [results,Tryz.results108,go_sem,usedR]) rfl ⟨rfl,bel⟩
 rw [show usedV K = (false,false,false,false,false,false) by simp_all [usedV]]
 have e0 : (K == 0) = false:=by simpa using h0
 have e1 : (K == 1) = false:=by simpa using h1
 have e2 : (K == 2) = false:=by simpa using h2
 have e3 : (K == 3) = false:=by simpa using h3
 have e4 : (K == 4) = false:=by simpa using h4
 have e5 : (K == 5) = false:=by simpa using h5
 have e6 : (K == 6) = false:=by simpa using h6
 have e7 : (K == 7) = false:=by simpa using h7
 have e8 : (K == 8) = false:=by simpa using h8
 have e9 : (K == 9) = false:=by simpa using h9
 clear h0 h1 h2 h3 h4 h5 h6 h7 h8 h9
 go_enter Tryz.func108,Tryz.ntmps108
 go_wp2
 refine bodyPost_ret (v:=usedR (false,false,false,false,false,false)) (by simp [results,Tryz.results108,go_sem,usedR]) rfl ⟨rfl,bel⟩
theorem vfits_in (K N G : Int) (s : L) (p1 p2 : Option Addr) (n1 c1 n2 c2 : Nat) (w : World) :
   Calls Tryz.prog 109 #[.agg #[.int .i64 K,.int .i64 N,.int .i64 G,.string ⟨s.toArray⟩,.slice p1 n1 c1,.slice p2 n2 c2]] w fun e w' => e = .returned (.bool (fitsV K N G)) ∧ Below w.heap.size w w':=by
 have HW:=Lh (fun n a b W => within_in n a b W)
 have HI:=Lh (fun n a b W => withinI_in n a b W)
 go_enter Tryz.func109,Tryz.ntmps109
 go_wp2_with (first | (go_at_call 145;refine (HW.out _ _ _ _).mono ?_;rintro e w1 ⟨rfl,rfl⟩) | (go_at_call 146;refine (HI.out _ _ _ _).mono ?_;rintro e w1 ⟨rfl,rfl⟩))
 all_goals go_ret
 all_goals exact ⟨ret_bool (by unfold fitsV;simp_all;try (first | omega | (rw [Bool.eq_iff_iff];simp;omega))),bel⟩
def shortV (K : Int) (n : Nat) : Bool:=if K = 4 then decide (n ≤ 32767) else if K = 5 then decide (n ≤ 127) else decide (n ≤ 1048576)
theorem vshort_in (K N G : Int) (s : L) (p1 p2 : Option Addr) (n1 c1 n2 c2 : Nat) (w : World) :
   Calls Tryz.prog 110 #[.agg #[.int .i64 K,.int .i64 N,.int .i64 G,.string ⟨s.toArray⟩,.slice p1 n1 c1,.slice p2 n2 c2]] w fun e w' => e = .returned (.bool (shortV K s.length)) ∧ Below w.heap.size w w':=by
 obtain ⟨ss,hss⟩ : ∃ ss : ByteArray,ss = ⟨s.toArray⟩:=⟨_,rfl⟩
 have hsz : s.length = ss.size:=by rw [hss];rfl
 rw [← hss,hsz]
 clear hss hsz
 go_enter Tryz.func110,Tryz.ntmps110
 go_wp2
 all_goals go_ret
 all_goals exact ⟨ret_bool (by unfold shortV;simp_all;try omega),bel⟩
open Go.RowKit Fo
theorem vkeys_dict (S : Nat → Prop) (d : Nat) (o : Ob) (b1 f1 c1 b2 f2 c2 : Nat) (w : World) (hK : KeysAt S w (.slice (some ⟨b1,f1,none⟩) o.keys.length c1) o.keys) (hR : RowAt S d w (.slice (some ⟨b2,f2,none⟩) o.kids.length c2) o.kids) (hS : ∀ b,S b → b < w.heap.size) (hk : o.kind = 7) (hl : o.keys.length = o.kids.length) (hle : o.keys.length ≤ 140737488355328) (hx : ∀ x ∈ o.keys,x.length ≤ 140737488355328) : Calls Tryz.prog 112 #[.agg #[.int .i64 o.kind,.int .i64 o.n,.int .i64 o.g,.string ⟨o.s.toArray⟩,.slice (some ⟨b1,f1,none⟩) o.keys.length c1,.slice (some ⟨b2,f2,none⟩) o.kids.length c2]] w fun e w' => e = .returned (.bool (keysB o)) ∧ Below w.heap.size w w':=by
 obtain ⟨n,hn⟩ : ∃ n,o.keys.length = n:=⟨_,rfl⟩
 have HK:=Lh hK
 have HR:=Lh hR
 have HS:=Lh hS
 have HX:=Lh hx
 rw [← hl,hn]
 rw [hn] at hle
 have HN:=Lh (And.intro hn (hl.symm.trans hn))
 rw [hk]
 have HK0:=Lh hk
 clear hK hR hS hn hl hx hk
 go_enter Tryz.func112,Tryz.ntmps112
 go_wp2
 go_loopw [15] (fun i wr => ∃ k : Nat,k ≤ n ∧ i = .int .i64 k ∧ Below (w.heap.size + 1) (w.alloc (.cells #[.int .i64 7,.int .i64 o.n,.int .i64 o.g,.string ⟨o.s.toArray⟩,.slice (some ⟨b1,f1,none⟩) n c1,.slice (some ⟨b2,f2,none⟩) n c2] 36)) wr ∧ Hid (∀ j,j < k → keyAt o j = true)) (fun i _ => n - (intOf i).toNat)
 case atStart => exact ⟨0,Nat.zero_le _,rfl,bel,Lh (by intro j hj;omega)⟩
 case round =>
   obtain ⟨k,hk,rfl,hb,HA⟩:=hrel
   by_cases hlt : k < n
   · have hbw : Below w.heap.size w wr:=(show Below w.heap.size w (w.alloc _) from bel).trans (hb.mono (by omega))
     obtain ⟨s1,g1⟩:=key_at (HK.out.kept (fun b h => hbw.block b (HS.out b h))) rfl k (by rw [HN.out.1];exact hlt)
     obtain ⟨s2,g2⟩:=rowKinds (HR.out.kept (fun b h => hbw.block b (HS.out b h))) rfl k (by rw [HN.out.2];exact hlt)
     have hp : 0 < k → wr.cell? ⟨b1,f1 + (k - 1),none⟩ = some (.string ⟨(o.keys.getD (k - 1) []).toArray⟩):=fun h => (key_at (HK.out.kept (fun b h => hbw.block b (HS.out b h))) rfl (k - 1) (by rw [HN.out.1];omega)).2
     obtain ⟨x,hx⟩ : ∃ x,o.keys.getD k [] = x:=⟨_,rfl⟩
     obtain ⟨y,hy⟩ : ∃ y,o.keys.getD (k - 1) [] = y:=⟨_,rfl⟩
     obtain ⟨kk,hkk⟩ : ∃ kk,(o.kids.getD k .zero).kind = kk:=⟨_,rfl⟩
     rw [hx] at g1
     rw [hy] at hp
     rw [hkk] at g2
     have c0 : wr.cell? ⟨w.heap.size,0,none⟩ = some (.int .i64 7):=by rw [hb.cell (p:=⟨w.heap.size,0,none⟩) (by show w.heap.size < _;omega)];simp [World.cell?_alloc_at]
     have c4 : wr.cell? ⟨w.heap.size,4,none⟩ = some (.slice (some ⟨b1,f1,none⟩) n c1):=by rw [hb.cell (p:=⟨w.heap.size,4,none⟩) (by show w.heap.size < _;omega)];simp [World.cell?_alloc_at]
     have c5 : wr.cell? ⟨w.heap.size,5,none⟩ = some (.slice (some ⟨b2,f2,none⟩) n c2):=by rw [hb.cell (p:=⟨w.heap.size,5,none⟩) (by show w.heap.size < _;omega)];simp [World.cell?_alloc_at]
     have hxm : x.length ≤ 140737488355328:=by
       rw [← hx]; exact HX.out _ (by have : k < o.keys.length := by rw [HN.out.1]; exact hlt
                                     simp [List.getD,this])
     have HNM:=Lh (fun W => vkey_in x hxm W)
     have HC:=Lh (show keyAt o k = (nameB x && (k == 0 || decide (y < x)) && !(x == wLength && o.kind == 9) && kk != 0) by unfold keyAt;rw [hx,hy,hkk])
     have HF:=Lh (fun h => keysB_false (o:=o) (k:=k) (by rw [HK0.out];decide) (by rw [HN.out.1];exact hlt) h)
     have hk9:=HK0.out
     rw [hk9] at HC
     clear hx hy hkk hxm hbw hk9
     cases hq : nameB x
     · rw [hq] at HC HNM
       have HF1:=Lh (HF.out (by rw [HC.out];simp))
       clear hp hq
       go_wp2_with (go_at_call 111;refine (HNM.out _).mono ?_;rintro e w1 ⟨rfl,rfl⟩)
       all_goals go_ret
       all_goals exact ⟨ret_bool HF1.out.symm,bel⟩
     · rw [hq] at HC HNM
       cases hle : (decide (0 < k) && !(Op.bytesLess y x))
       · have hle2 : 0 < k → Op.bytesLess y x = true:=fun h => by simpa [h] using hle
         have HC2:=Lh (show keyAt o k = (!(x == wLength && (7 : Int) == 9) && kk != 0) by
           rw [HC.out]
           by_cases h0 : k = 0
           · subst h0;simp
           · have:=hle2 (by omega)
             rw [bytesLess_eq] at this;rw [this];simp)
         clear hle HC
         have HZ0:=Lh (show kk = 0 ∨ ¬ kk = 0 from Classical.em _)
         by_cases hw : x = ([76,101,110,103,116,104] : L)
         · subst hw
           cases hz : (kk == 0)
           · have HZ:=Lh hz
             by_cases h0 : 0 < k
             · have hp':=hp h0
               have h1:=hle2 h0
               clear hp hle2
               go_wp2_with (go_at_call 111;refine (HNM.out _).mono ?_;rintro e w1 ⟨rfl,rfl⟩)
               go_roundw
               case rel => exact ⟨k + 1,by omega,by go_num,by exact hb,Lh (fun j hj => by
                 by_cases hjk : j < k
                 · exact HA.out j hjk
                 · have : j = k:=by omega
                   subst this
                   rw [HC2.out];have a2:=HZ.out;first | (simp [wLength];done) | (simp [wLength] at a2 ⊢;exact a2) | (simp [wLength,HW.out] at a2 ⊢;exact a2))⟩
               case measure => simp [intOf];omega
             · have hk0 : k = 0:=by omega
               subst hk0
               simp only [Nat.add_zero,Nat.zero_mul] at g1 g2
               clear hp hle2
               go_wp2_with (go_at_call 111;refine (HNM.out _).mono ?_;rintro e w1 ⟨rfl,rfl⟩)
               go_roundw
               case rel => exact ⟨1,by omega,by go_num,by exact hb,Lh (fun j hj => by
                 by_cases hjk : j < 0
                 · exact HA.out j hjk
                 · have : j = 0:=by omega
                   subst this
                   rw [HC2.out];have a2:=HZ.out;first | (simp [wLength];done) | (simp [wLength] at a2 ⊢;exact a2) | (simp [wLength,HW.out] at a2 ⊢;exact a2))⟩
               case measure => simp [intOf];omega
           · have HZ:=Lh hz
             by_cases h0 : 0 < k
             · have hp':=hp h0
               have h1:=hle2 h0
               clear hp hle2
               go_wp2_with (go_at_call 111;refine (HNM.out _).mono ?_;rintro e w1 ⟨rfl,rfl⟩)
               go_ret
               exact ⟨ret_bool (HF.out (by rw [HC2.out];have a2:=HZ.out;first | (simp [wLength];done) | (simp [wLength] at a2 ⊢;exact a2) | (simp [wLength,HW.out] at a2 ⊢;exact a2))).symm,bel⟩
             · have hk0 : k = 0:=by omega
               subst hk0
               simp only [Nat.add_zero,Nat.zero_mul] at g1 g2
               clear hp hle2
               go_wp2_with (go_at_call 111;refine (HNM.out _).mono ?_;rintro e w1 ⟨rfl,rfl⟩)
               go_ret
               exact ⟨ret_bool (HF.out (by rw [HC2.out];have a2:=HZ.out;first | (simp [wLength];done) | (simp [wLength] at a2 ⊢;exact a2) | (simp [wLength,HW.out] at a2 ⊢;exact a2))).symm,bel⟩
         · have hw' : (x == ([76,101,110,103,116,104] : L)) = false:=by simpa using hw
           have HW:=Lh hw'
           cases hz : (kk == 0)
           · have HZ:=Lh hz
             by_cases h0 : 0 < k
             · have hp':=hp h0
               have h1:=hle2 h0
               clear hp hle2
               go_wp2_with (go_at_call 111;refine (HNM.out _).mono ?_;rintro e w1 ⟨rfl,rfl⟩)
               go_roundw
               case rel => exact ⟨k + 1,by omega,by go_num,by exact hb,Lh (fun j hj => by
                 by_cases hjk : j < k
                 · exact HA.out j hjk
                 · have : j = k:=by omega
                   subst this
                   rw [HC2.out];have a2:=HZ.out;first | (simp [wLength];done) | (simp [wLength] at a2 ⊢;exact a2) | (simp [wLength,HW.out] at a2 ⊢;exact a2))⟩
               case measure => simp [intOf];omega
             · have hk0 : k = 0:=by omega
               subst hk0
               simp only [Nat.add_zero,Nat.zero_mul] at g1 g2
               clear hp hle2
               go_wp2_with (go_at_call 111;refine (HNM.out _).mono ?_;rintro e w1 ⟨rfl,rfl⟩)
               go_roundw
               case rel => exact ⟨1,by omega,by go_num,by exact hb,Lh (fun j hj => by
                 by_cases hjk : j < 0
                 · exact HA.out j hjk
                 · have : j = 0:=by omega
                   subst this
                   rw [HC2.out];have a2:=HZ.out;first | (simp [wLength];done) | (simp [wLength] at a2 ⊢;exact a2) | (simp [wLength,HW.out] at a2 ⊢;exact a2))⟩
               case measure => simp [intOf];omega
           · have HZ:=Lh hz
             by_cases h0 : 0 < k
             · have hp':=hp h0
               have h1:=hle2 h0
               clear hp hle2
               go_wp2_with (go_at_call 111;refine (HNM.out _).mono ?_;rintro e w1 ⟨rfl,rfl⟩)
               go_ret
               exact ⟨ret_bool (HF.out (by rw [HC2.out];have a2:=HZ.out;first | (simp [wLength];done) | (simp [wLength] at a2 ⊢;exact a2) | (simp [wLength,HW.out] at a2 ⊢;exact a2))).symm,bel⟩
             · have hk0 : k = 0:=by omega
               subst hk0
               simp only [Nat.add_zero,Nat.zero_mul] at g1 g2
               clear hp hle2
               go_wp2_with (go_at_call 111;refine (HNM.out _).mono ?_;rintro e w1 ⟨rfl,rfl⟩)
               go_ret
               exact ⟨ret_bool (HF.out (by rw [HC2.out];have a2:=HZ.out;first | (simp [wLength];done) | (simp [wLength] at a2 ⊢;exact a2) | (simp [wLength,HW.out] at a2 ⊢;exact a2))).symm,bel⟩
       · have h0 : 0 < k:=by simp at hle;exact hle.1
         have h1 : Op.bytesLess y x = false:=by simp at hle;exact hle.2
         have HF1 := Lib.hid (HF.out (by rw [HC.out, ← bytesLess_eq, h1]; have : k ≠ 0 := by omega
                                         simp [this]))
         have hp':=hp h0
         clear hp hle
         go_wp2_with (go_at_call 111;refine (HNM.out _).mono ?_;rintro e w1 ⟨rfl,rfl⟩)
         go_ret
         exact ⟨ret_bool HF1.out.symm,bel⟩
   · have HE := Lib.hid (show keysB o = true by
       have hkn : k = n:=by omega
       unfold keysB
       rw [if_neg (by rw [HK0.out];decide),if_neg (by rw [HK0.out];decide),HN.out.1,HN.out.2]
       simp only [beq_self_eq_true,Bool.true_and,List.all_eq_true,List.mem_range]
       intro j hj;exact HA.out j (by omega))
     go_wp2
     go_ret
     exact ⟨ret_bool HE.out.symm,bel⟩
theorem vkeys_stream (S : Nat → Prop) (d : Nat) (o : Ob) (b1 f1 c1 b2 f2 c2 : Nat) (w : World) (hK : KeysAt S w (.slice (some ⟨b1,f1,none⟩) o.keys.length c1) o.keys) (hR : RowAt S d w (.slice (some ⟨b2,f2,none⟩) o.kids.length c2) o.kids) (hS : ∀ b,S b → b < w.heap.size) (hk : o.kind = 9) (hl : o.keys.length = o.kids.length) (hle : o.keys.length ≤ 140737488355328) (hx : ∀ x ∈ o.keys,x.length ≤ 140737488355328) : Calls Tryz.prog 112 #[.agg #[.int .i64 o.kind,.int .i64 o.n,.int .i64 o.g,.string ⟨o.s.toArray⟩,.slice (some ⟨b1,f1,none⟩) o.keys.length c1,.slice (some ⟨b2,f2,none⟩) o.kids.length c2]] w fun e w' => e = .returned (.bool (keysB o)) ∧ Below w.heap.size w w':=by
 obtain ⟨n,hn⟩ : ∃ n,o.keys.length = n:=⟨_,rfl⟩
 have HK:=Lh hK
 have HR:=Lh hR
 have HS:=Lh hS
 have HX:=Lh hx
 rw [← hl,hn]
 rw [hn] at hle
 have HN:=Lh (And.intro hn (hl.symm.trans hn))
 rw [hk]
 have HK0:=Lh hk
 clear hK hR hS hn hl hx hk
 go_enter Tryz.func112,Tryz.ntmps112
 go_wp2
 go_loopw [15] (fun i wr => ∃ k : Nat,k ≤ n ∧ i = .int .i64 k ∧ Below (w.heap.size + 1) (w.alloc (.cells #[.int .i64 9,.int .i64 o.n,.int .i64 o.g,.string ⟨o.s.toArray⟩,.slice (some ⟨b1,f1,none⟩) n c1,.slice (some ⟨b2,f2,none⟩) n c2] 36)) wr ∧ Hid (∀ j,j < k → keyAt o j = true)) (fun i _ => n - (intOf i).toNat)
 case atStart => exact ⟨0,Nat.zero_le _,rfl,bel,Lh (by intro j hj;omega)⟩
 case round =>
   obtain ⟨k,hk,rfl,hb,HA⟩:=hrel
   by_cases hlt : k < n
   · have hbw : Below w.heap.size w wr:=(show Below w.heap.size w (w.alloc _) from bel).trans (hb.mono (by omega))
     obtain ⟨s1,g1⟩:=key_at (HK.out.kept (fun b h => hbw.block b (HS.out b h))) rfl k (by rw [HN.out.1];exact hlt)
     obtain ⟨s2,g2⟩:=rowKinds (HR.out.kept (fun b h => hbw.block b (HS.out b h))) rfl k (by rw [HN.out.2];exact hlt)
     have hp : 0 < k → wr.cell? ⟨b1,f1 + (k - 1),none⟩ = some (.string ⟨(o.keys.getD (k - 1) []).toArray⟩):=fun h => (key_at (HK.out.kept (fun b h => hbw.block b (HS.out b h))) rfl (k - 1) (by rw [HN.out.1];omega)).2
     obtain ⟨x,hx⟩ : ∃ x,o.keys.getD k [] = x:=⟨_,rfl⟩
     obtain ⟨y,hy⟩ : ∃ y,o.keys.getD (k - 1) [] = y:=⟨_,rfl⟩
     obtain ⟨kk,hkk⟩ : ∃ kk,(o.kids.getD k .zero).kind = kk:=⟨_,rfl⟩
     rw [hx] at g1
     rw [hy] at hp
     rw [hkk] at g2
     have c0 : wr.cell? ⟨w.heap.size,0,none⟩ = some (.int .i64 9):=by rw [hb.cell (p:=⟨w.heap.size,0,none⟩) (by show w.heap.size < _;omega)];simp [World.cell?_alloc_at]
     have c4 : wr.cell? ⟨w.heap.size,4,none⟩ = some (.slice (some ⟨b1,f1,none⟩) n c1):=by rw [hb.cell (p:=⟨w.heap.size,4,none⟩) (by show w.heap.size < _;omega)];simp [World.cell?_alloc_at]
     have c5 : wr.cell? ⟨w.heap.size,5,none⟩ = some (.slice (some ⟨b2,f2,none⟩) n c2):=by rw [hb.cell (p:=⟨w.heap.size,5,none⟩) (by show w.heap.size < _;omega)];simp [World.cell?_alloc_at]
     have hxm : x.length ≤ 140737488355328:=by
       rw [← hx]; exact HX.out _ (by have : k < o.keys.length := by rw [HN.out.1]; exact hlt
                                     simp [List.getD,this])
     have HNM:=Lh (fun W => vkey_in x hxm W)
     have HC:=Lh (show keyAt o k = (nameB x && (k == 0 || decide (y < x)) && !(x == wLength && o.kind == 9) && kk != 0) by unfold keyAt;rw [hx,hy,hkk])
     have HF:=Lh (fun h => keysB_false (o:=o) (k:=k) (by rw [HK0.out];decide) (by rw [HN.out.1];exact hlt) h)
     have hk9:=HK0.out
     rw [hk9] at HC
     clear hx hy hkk hxm hbw hk9
     cases hq : nameB x
     · rw [hq] at HC HNM
       have HF1:=Lh (HF.out (by rw [HC.out];simp))
       clear hp hq
       go_wp2_with (go_at_call 111;refine (HNM.out _).mono ?_;rintro e w1 ⟨rfl,rfl⟩)
       all_goals go_ret
       all_goals exact ⟨ret_bool HF1.out.symm,bel⟩
     · rw [hq] at HC HNM
       cases hle : (decide (0 < k) && !(Op.bytesLess y x))
       · have hle2 : 0 < k → Op.bytesLess y x = true:=fun h => by simpa [h] using hle
         have HC2:=Lh (show keyAt o k = (!(x == wLength && (9 : Int) == 9) && kk != 0) by
           rw [HC.out]
           by_cases h0 : k = 0
           · subst h0;simp
           · have:=hle2 (by omega)
             rw [bytesLess_eq] at this;rw [this];simp)
         clear hle HC
         have HZ0:=Lh (show kk = 0 ∨ ¬ kk = 0 from Classical.em _)
         by_cases hw : x = ([76,101,110,103,116,104] : L)
         · subst hw
           have HZ:=HZ0
           by_cases h0 : 0 < k
           · have hp':=hp h0
             have h1:=hle2 h0
             clear hp hle2
             go_wp2_with (go_at_call 111;refine (HNM.out _).mono ?_;rintro e w1 ⟨rfl,rfl⟩)
             go_ret
             exact ⟨ret_bool (HF.out (by rw [HC2.out];have a2:=HZ.out;first | (simp [wLength];done) | (simp [wLength] at a2 ⊢;exact a2) | (simp [wLength,HW.out] at a2 ⊢;exact a2))).symm,bel⟩
           · have hk0 : k = 0:=by omega
             subst hk0
             simp only [Nat.add_zero,Nat.zero_mul] at g1 g2
             clear hp hle2
             go_wp2_with (go_at_call 111;refine (HNM.out _).mono ?_;rintro e w1 ⟨rfl,rfl⟩)
             go_ret
             exact ⟨ret_bool (HF.out (by rw [HC2.out];have a2:=HZ.out;first | (simp [wLength];done) | (simp [wLength] at a2 ⊢;exact a2) | (simp [wLength,HW.out] at a2 ⊢;exact a2))).symm,bel⟩
         · have hw' : (x == ([76,101,110,103,116,104] : L)) = false:=by simpa using hw
           have HW:=Lh hw'
           cases hz : (kk == 0)
           · have HZ:=Lh hz
             by_cases h0 : 0 < k
             · have hp':=hp h0
               have h1:=hle2 h0
               clear hp hle2
               go_wp2_with (go_at_call 111;refine (HNM.out _).mono ?_;rintro e w1 ⟨rfl,rfl⟩)
               go_roundw
               case rel => exact ⟨k + 1,by omega,by go_num,by exact hb,Lh (fun j hj => by
                 by_cases hjk : j < k
                 · exact HA.out j hjk
                 · have : j = k:=by omega
                   subst this
                   rw [HC2.out];have a2:=HZ.out;first | (simp [wLength];done) | (simp [wLength] at a2 ⊢;exact a2) | (simp [wLength,HW.out] at a2 ⊢;exact a2))⟩
               case measure => simp [intOf];omega
             · have hk0 : k = 0:=by omega
               subst hk0
               simp only [Nat.add_zero,Nat.zero_mul] at g1 g2
               clear hp hle2
               go_wp2_with (go_at_call 111;refine (HNM.out _).mono ?_;rintro e w1 ⟨rfl,rfl⟩)
               go_roundw
               case rel => exact ⟨1,by omega,by go_num,by exact hb,Lh (fun j hj => by
                 by_cases hjk : j < 0
                 · exact HA.out j hjk
                 · have : j = 0:=by omega
                   subst this
                   rw [HC2.out];have a2:=HZ.out;first | (simp [wLength];done) | (simp [wLength] at a2 ⊢;exact a2) | (simp [wLength,HW.out] at a2 ⊢;exact a2))⟩
               case measure => simp [intOf];omega
           · have HZ:=Lh hz
             by_cases h0 : 0 < k
             · have hp':=hp h0
               have h1:=hle2 h0
               clear hp hle2
               go_wp2_with (go_at_call 111;refine (HNM.out _).mono ?_;rintro e w1 ⟨rfl,rfl⟩)
               go_ret
               exact ⟨ret_bool (HF.out (by rw [HC2.out];have a2:=HZ.out;first | (simp [wLength];done) | (simp [wLength] at a2 ⊢;exact a2) | (simp [wLength,HW.out] at a2 ⊢;exact a2))).symm,bel⟩
             · have hk0 : k = 0:=by omega
               subst hk0
               simp only [Nat.add_zero,Nat.zero_mul] at g1 g2
               clear hp hle2
               go_wp2_with (go_at_call 111;refine (HNM.out _).mono ?_;rintro e w1 ⟨rfl,rfl⟩)
               go_ret
               exact ⟨ret_bool (HF.out (by rw [HC2.out];have a2:=HZ.out;first | (simp [wLength];done) | (simp [wLength] at a2 ⊢;exact a2) | (simp [wLength,HW.out] at a2 ⊢;exact a2))).symm,bel⟩
       · have h0 : 0 < k:=by simp at hle;exact hle.1
         have h1 : Op.bytesLess y x = false:=by simp at hle;exact hle.2
         have HF1 := Lib.hid (HF.out (by rw [HC.out, ← bytesLess_eq, h1]; have : k ≠ 0 := by omega
                                         simp [this]))
         have hp':=hp h0
         clear hp hle
         go_wp2_with (go_at_call 111;refine (HNM.out _).mono ?_;rintro e w1 ⟨rfl,rfl⟩)
         go_ret
         exact ⟨ret_bool HF1.out.symm,bel⟩
   · have HE := Lib.hid (show keysB o = true by
       have hkn : k = n:=by omega
       unfold keysB
       rw [if_neg (by rw [HK0.out];decide),if_neg (by rw [HK0.out];decide),HN.out.1,HN.out.2]
       simp only [beq_self_eq_true,Bool.true_and,List.all_eq_true,List.mem_range]
       intro j hj;exact HA.out j (by omega))
     go_wp2
     go_ret
     exact ⟨ret_bool HE.out.symm,bel⟩
theorem vkeys_dif (o : Ob) (p1 p2 : Option Addr) (c1 c2 : Nat) (w : World) (h : o.kind = 7 ∨ o.kind = 9) (hl : o.keys.length ≠ o.kids.length) :
   Calls Tryz.prog 112 #[.agg #[.int .i64 o.kind,.int .i64 o.n,.int .i64 o.g,.string ⟨o.s.toArray⟩,.slice p1 o.keys.length c1,.slice p2 o.kids.length c2]] w fun e w' => e = .returned (.bool (keysB o)) ∧ Below w.heap.size w w':=by
 rcases h with hk | hk
 ·
   have HC:=Lh (show keysB o = false by unfold keysB;rw [if_neg (by omega),if_neg (by omega)];simp [hl])
   rw [hk]
   clear hk
   have hl' : ((o.keys.length : Int) != (o.kids.length : Int)) = true:=by simp;omega
   have hl2 : ¬ o.keys.length = o.kids.length:=hl
   obtain ⟨n1,hn1⟩ : ∃ n,o.keys.length = n:=⟨_,rfl⟩
   obtain ⟨n2,hn2⟩ : ∃ n,o.kids.length = n:=⟨_,rfl⟩
   rw [hn1,hn2] at hl' hl2
   rw [hn1,hn2]
   clear hn1 hn2 hl
   go_enter Tryz.func112,Tryz.ntmps112
   go_wp2
   go_ret
   exact ⟨ret_bool HC.out.symm,bel⟩
 ·
   have HC:=Lh (show keysB o = false by unfold keysB;rw [if_neg (by omega),if_neg (by omega)];simp [hl])
   rw [hk]
   clear hk
   have hl' : ((o.keys.length : Int) != (o.kids.length : Int)) = true:=by simp;omega
   have hl2 : ¬ o.keys.length = o.kids.length:=hl
   obtain ⟨n1,hn1⟩ : ∃ n,o.keys.length = n:=⟨_,rfl⟩
   obtain ⟨n2,hn2⟩ : ∃ n,o.kids.length = n:=⟨_,rfl⟩
   rw [hn1,hn2] at hl' hl2
   rw [hn1,hn2]
   clear hn1 hn2 hl
   go_enter Tryz.func112,Tryz.ntmps112
   go_wp2
   go_ret
   exact ⟨ret_bool HC.out.symm,bel⟩
theorem vkeys_nil (o : Ob) (p1 p2 : Option Addr) (c1 c2 : Nat) (w : World) (h : o.kind = 7 ∨ o.kind = 9) (h1 : o.keys.length = 0) (h2 : o.kids.length = 0) :
   Calls Tryz.prog 112 #[.agg #[.int .i64 o.kind,.int .i64 o.n,.int .i64 o.g,.string ⟨o.s.toArray⟩,.slice p1 o.keys.length c1,.slice p2 o.kids.length c2]] w fun e w' => e = .returned (.bool (keysB o)) ∧ Below w.heap.size w w':=by
 rcases h with hk | hk
 ·
   have HC:=Lh (show keysB o = true by unfold keysB;rw [if_neg (by omega),if_neg (by omega),h1,h2];simp)
   rw [hk]
   clear hk
   rw [h1,h2]
   clear h1 h2
   go_enter Tryz.func112,Tryz.ntmps112
   go_wp2
   refine wp_loop_rounds 1 ?_
   rw [rounds_succ]
   go_wp2
   go_ret
   exact ⟨ret_bool HC.out.symm,bel⟩
 ·
   have HC:=Lh (show keysB o = true by unfold keysB;rw [if_neg (by omega),if_neg (by omega),h1,h2];simp)
   rw [hk]
   clear hk
   rw [h1,h2]
   clear h1 h2
   go_enter Tryz.func112,Tryz.ntmps112
   go_wp2
   refine wp_loop_rounds 1 ?_
   rw [rounds_succ]
   go_wp2
   go_ret
   exact ⟨ret_bool HC.out.symm,bel⟩
theorem vkeys_in (S : Nat → Prop) (d : Nat) (o : Ob) (kv dv : Value) (w : World) (hK : KeysAt S w kv o.keys) (hR : RowAt S d w dv o.kids)
   (hS : ∀ b,S b → b < w.heap.size) (hle : o.keys.length ≤ 140737488355328) (hx : ∀ x ∈ o.keys,x.length ≤ 140737488355328) (h79 : o.kind = 7 ∨ o.kind = 9) :
   Calls Tryz.prog 112 #[.agg #[.int .i64 o.kind,.int .i64 o.n,.int .i64 o.g,.string ⟨o.s.toArray⟩,kv,dv]] w fun e w' => e = .returned (.bool (keysB o)) ∧ Below w.heap.size w w':=by
 have a1 : ∃ p c,kv = .slice p o.keys.length c:=by
   rcases hK with ⟨e,p,c,h⟩ | ⟨b,o,c,h,_⟩
   · exact ⟨_,_,by rw [e];exact h⟩
   · exact ⟨_,_,h⟩
 have a2 : ∃ p c,dv = .slice p o.kids.length c:=by
   rcases hR with ⟨e,p,c,h⟩ | ⟨b,o,c,h,_⟩
   · exact ⟨_,_,by rw [e];exact h⟩
   · exact ⟨_,_,h⟩
 by_cases hl : o.keys.length = o.kids.length
 · by_cases h0 : o.keys.length = 0
   · obtain ⟨p1,c1,rfl⟩:=a1
     obtain ⟨p2,c2,rfl⟩:=a2
     exact vkeys_nil o p1 p2 c1 c2 w h79 h0 (by omega)
   · have hK':=hK
     have hR':=hR
     rcases hK with ⟨e,_⟩ | ⟨b1,f1,c1,rfl,_⟩
     · rw [e] at h0;exact absurd rfl h0
     · rcases hR with ⟨e,_⟩ | ⟨b2,f2,c2,rfl,_⟩
       · rw [e] at hl;simp at hl;simp [hl] at h0
       · rcases h79 with h | h
         · exact vkeys_dict S d o b1 f1 c1 b2 f2 c2 w hK' hR' hS h hl hle hx
         · exact vkeys_stream S d o b1 f1 c1 b2 f2 c2 w hK' hR' hS h hl hle hx
 · obtain ⟨p1,c1,rfl⟩:=a1
   obtain ⟨p2,c2,rfl⟩:=a2
   exact vkeys_dif o p1 p2 c1 c2 w h79 hl
open Go.RowKit Fo
theorem uses_eq (o : Ob) : usesV o.kind o.n o.g o.s o.keys.length o.kids.length = usesB o:=by
 have hz : ∀ n g t l,zeroV o.n o.g o.s o.keys.length o.kids.length n g t l = zeroB o n g t l:=by
   intro n g t l
   unfold zeroV zeroB
   have e1 : ((o.keys.length : Int) == 0) = o.keys.isEmpty:=by cases o.keys <;> simp;omega
   have e2 : ((o.kids.length : Int) == 0) = o.kids.isEmpty:=by cases o.kids <;> simp;omega
   rw [e1,e2]
 have e1 : ((o.keys.length : Int) == 0) = o.keys.isEmpty:=by cases o.keys <;> simp;omega
 unfold usesV usesB
 simp only [hz,e1]
theorem fits_eq (o : Ob) : fitsV o.kind o.n o.g = fitsB o:=rfl
theorem longB_le (k : Int) : longB k ≤ 1048576:=by unfold longB;split <;> (try split) <;> omega
theorem firstBad_snoc {l : List Int} {x : Int} (h : ∀ y ∈ l,y = 0) (hx : x ≠ 0) (r : List Int) : firstBad (l ++ x :: r) = x:=by
 unfold firstBad
 rw [List.find?_append,List.find?_eq_none.2 (fun y hy => by simp [h y hy])]
 simp [hx]
def CheckC (S : Nat → Prop) (n : Nat) : Prop:=∀ (d : Nat) (w : World) (cs : List Value) (o : Ob),ObjAt S d w cs o → smallO d o → (∀ b,S b → b < w.heap.size) →
 Calls Tryz.prog 68 #[.agg cs.toArray,.int .i64 (25 - (n : Int))] w fun e w' => e = .returned (.int .i64 (checkB n o)) ∧ Below w.heap.size w w'
theorem check_zero (S : Nat → Prop) : CheckC S 0:=by
 intro d w cs o h _ _
 obtain ⟨p1,c1,p2,c2,rfl⟩:=h.form2
 unfold objCells
 go_enter Tryz.func68,Tryz.ntmps68
 go_wp2
 go_ret
 exact ⟨rfl,bel⟩
theorem check_step (S : Nat → Prop) (n : Nat) (hn : n < 24) (IH : CheckC S n) : CheckC S (n + 1):=by
 intro d w cs o hO hsm hS
 cases d with
 | zero => exact hO.elim
 | succ d =>
 obtain ⟨kv,dv,rfl,hK,hR0⟩:=hO
 have hR : RowAt S d w dv o.kids:=hR0
 clear hR0
 obtain ⟨m1,m2,m3,m4,m5⟩:=hsm
 have a1 : ∃ p c,kv = .slice p o.keys.length c:=by
   rcases hK with ⟨e,p,c,h⟩ | ⟨b,o,c,h,_⟩
   · exact ⟨_,_,by rw [e];exact h⟩
   · exact ⟨_,_,h⟩
 have a2 : ∃ p c,dv = .slice p o.kids.length c:=by
   rcases hR with ⟨e,p,c,h⟩ | ⟨b,o,c,h,_⟩
   · exact ⟨_,_,by rw [e];exact h⟩
   · exact ⟨_,_,h⟩
 obtain ⟨p1,c1,rfl⟩:=a1
 obtain ⟨p2,c2,rfl⟩:=a2
 have HU:=Lh (fun W => uses_in o.kind o.n o.g o.s p1 p2 o.keys.length c1 o.kids.length c2 W)
 rw [uses_eq] at HU
 have HFI:=Lh (fun W => fits_in o.kind o.n o.g o.s p1 p2 o.keys.length c1 o.kids.length c2 W)
 rw [fits_eq] at HFI
 have HLO:=Lh (fun W => long_in o.kind W)
 have HKE:=Lh (fun W (hW : Below w.heap.size w W) => keys_in S d o _ _ W (hK.kept (fun b h => hW.block b (hS b h))) (hR.kept (fun b h => hW.block b (hS b h))) (fun b h => Nat.lt_of_lt_of_le (hS b h) hW.size) m1 m4 m3)
 have HRW:=Lh (And.intro hR (And.intro m5 hS))
 obtain ⟨C,hC⟩ : ∃ C,checkB (n + 1) o = C:=⟨_,rfl⟩
 rw [hC]
 unfold checkB at hC
 obtain ⟨D,hD⟩ : ∃ D : Int,25 - ((n + 1 : Nat) : Int) = D:=⟨_,rfl⟩
 rw [hD]
 have hD1 : 1 ≤ D:=by omega
 have hD2 : D ≤ 24:=by omega
 have hDn : D + 1 = 25 - (n : Int):=by omega
 obtain ⟨K,hk0⟩ : ∃ K,o.kind = K:=⟨_,rfl⟩
 obtain ⟨nk,hnk⟩ : ∃ nk,o.kids.length = nk:=⟨_,rfl⟩
 obtain ⟨LG,hLG⟩ : ∃ LG,longB K = LG:=⟨_,rfl⟩
 obtain ⟨ss,hss⟩ : ∃ ss : ByteArray,ss = ⟨o.s.toArray⟩:=⟨_,rfl⟩
 have hns : o.s.length = ss.size:=by rw [hss];rfl
 have hd24 : decide (24 < D) = false:=by simp;omega
 have hn23 : (n != 23) = decide (1 < D):=by
   rw [Bool.eq_iff_iff];simp;omega
 rw [hn23] at hC
 unfold objCells
 rw [hk0] at hC HU HFI HLO HKE
 rw [hk0]
 rw [hLG] at hC HLO
 rw [hns] at hC m3
 rw [hnk] at hC HU HFI HKE HRW m2
 rw [hnk]
 rw [← hss] at HU HFI HKE
 rw [← hss]
 have HNK:=Lh (And.intro hnk hk0)
 have HDN:=Lh hDn
 have hLGb : LG ≤ 1048576:=hLG ▸ longB_le K
 clear hK hR hS m1 m4 m5 hD hk0 hnk hns hLG hss hn23 hDn
 cases hq1 : usesB o
 · rw [hq1] at HU hC
   have HC:=Lh hC
   clear hC hq1
   go_enter Tryz.func68,Tryz.ntmps68
   go_wp2_with fail
   refine (HU.out _).mono ?_
   rintro e w1 ⟨rfl,hb1⟩
   obtain ⟨hc1,hf1⟩:=bcell hb1
   have hz1:=hb1.size
   simp at hz1
   go_wp2
   go_ret
   exact ⟨ret_int (by rw [← HC.out];rfl),bel⟩
 rw [hq1] at HU hC
 cases hq2 : (K == 9 && decide (1 < D))
 · rw [hq2] at hC
   by_cases hq9 : K = 9
   · have hD3 : ¬ 1 < D:=by simp [hq9] at hq2;omega
     have hD4 : D = 1:=by omega
     subst hD4
     subst hq9
     clear hq1 hq2
     go_enter Tryz.func68,Tryz.ntmps68
     go_wp2_with fail
     refine (HU.out _).mono ?_
     rintro e w1 ⟨rfl,hb1⟩
     obtain ⟨hc1,hf1⟩:=bcell hb1
     have hz1:=hb1.size
     simp at hz1
     cases hq3 : fitsB o
     · rw [hq3] at hC HFI
       have HC:=Lh hC
       clear hC hq3
       go_wp2_with fail
       refine (HFI.out _).mono ?_
       rintro e w2 ⟨rfl,hb2⟩
       go_wp2
       go_ret
       exact ⟨ret_int (by rw [← HC.out];rfl),bel⟩
     rw [hq3] at hC HFI
     clear hq3
     go_wp2_with fail
     refine (HFI.out _).mono ?_
     rintro e w2 ⟨rfl,hb2⟩
     obtain ⟨hc2,hf2⟩:=bcell hb2
     have hz2:=hb2.size
     have q0 : w2.cell? ⟨w.heap.size,0,none⟩ = some (.int .i64 9):=by rw [hc2 _ _ (by omega),hc1 _ _ (by simp)];simp [go_sem]
     have q3 : w2.cell? ⟨w.heap.size,3,none⟩ = some (.string ss):=by rw [hc2 _ _ (by omega),hc1 _ _ (by simp)];simp [go_sem]
     have q1 : w2.cell? ⟨w.heap.size,1,none⟩ = some (.int .i64 o.n):=by rw [hc2 _ _ (by omega),hc1 _ _ (by simp)];simp [go_sem]
     have q2 : w2.cell? ⟨w.heap.size,2,none⟩ = some (.int .i64 o.g):=by rw [hc2 _ _ (by omega),hc1 _ _ (by simp)];simp [go_sem]
     have q4 : w2.cell? ⟨w.heap.size,4,none⟩ = some (.slice p1 o.keys.length c1):=by rw [hc2 _ _ (by omega),hc1 _ _ (by simp)];simp [go_sem]
     have q5 : w2.cell? ⟨w.heap.size,5,none⟩ = some (.slice p2 nk c2):=by rw [hc2 _ _ (by omega),hc1 _ _ (by simp)];simp [go_sem]
     have hbw2 : Below w.heap.size w w2:=bel
     clear hc1 hf1 hc2 hf2
     by_cases hq4 : LG < ss.size
     · rw [if_pos hq4] at hC
       have HC:=Lh hC
       clear hC
       go_wp2
       go_quiet ((go_at_call 115;exact Calls.quiet_of_same (HLO.out _)))
       go_wp2
       go_ret
       exact ⟨ret_int (by rw [← HC.out];rfl),bel⟩
     rw [if_neg hq4] at hC
     have hz12 : w.heap.size + 1 ≤ w2.heap.size:=by omega
     by_cases hq5 : 8191 < nk
     · rw [if_pos hq5] at hC
       have HC:=Lh hC
       clear hC
       go_wp2
       go_quiet ((go_at_call 115;exact Calls.quiet_of_same (HLO.out _)))
       go_wp2
       go_ret
       exact ⟨ret_int (by rw [← HC.out];rfl),bel⟩
     rw [if_neg hq5] at hC
     cases hq6 : keysB o
     · rw [hq6] at HKE hC
       have HC:=Lh hC
       clear hC hq6
       go_wp2
       go_quiet ((go_at_call 115;exact Calls.quiet_of_same (HLO.out _)))
       go_wp2_with fail
       refine (HKE.out _ bel).mono ?_
       rintro e w3 ⟨rfl,hb3⟩
       go_wp2
       go_ret
       exact ⟨ret_int (by rw [← HC.out];rfl),bel⟩
     rw [hq6] at HKE hC
     have HC:=Lh hC
     clear hC hq6
     go_wp2
     go_quiet ((go_at_call 115;exact Calls.quiet_of_same (HLO.out _)))
     go_wp2_with fail
     refine (HKE.out _ bel).mono ?_
     rintro e w3 ⟨rfl,hb3⟩
     obtain ⟨hc3,hf3⟩:=bcell hb3
     have hz3:=hb3.size
     have r5 : w3.cell? ⟨w.heap.size,5,none⟩ = some (.slice p2 nk c2):=(hc3 _ _ (by simp;omega)).trans (by simpa using q5)
     clear hc3 hf3
     have hbw3 : Below w.heap.size w w3:=bel
     have hq8 : decide (8191 < (nk : Int)) = false:=by simp;omega
     go_wp2
     clear r5
     go_loopw [42] (fun i wr => ∃ k : Nat,k ≤ nk ∧ i = .int .i64 k ∧ Below w.heap.size w wr ∧ Hid (∀ x ∈ o.kids.take k,checkB n x = 0)) (fun i _ => nk - (intOf i).toNat)
     case atStart => exact ⟨0,Nat.zero_le _,rfl,bel,Lh (by simp)⟩
     case round =>
       obtain ⟨k,hk,rfl,hb,HA⟩:=hrel
       by_cases hlt : k < nk
       · have hRw : RowAt S d wr (.slice p2 nk c2) o.kids := by
           have:=HRW.out.1.kept (fun b h => hb.block b (HRW.out.2.2 b h));exact this
         obtain ⟨b,off,rfl⟩ : ∃ b off,p2 = some ⟨b,off,none⟩:=by
           rcases hRw with ⟨e,_⟩ | ⟨b,off,c,e,_⟩
           · have:=HNK.out.1;rw [e] at this;simp at this;omega
           · cases e;exact ⟨_,_,rfl⟩
         obtain ⟨x,p3,n3,e3,p4,n4,e4,hx,hxm,s1,O1,f0,f1,f2,f3,f4,f5⟩:=row_kid hRw HNK.out.1 k hlt
         have hS2 : ∀ b,S b → b < wr.heap.size:=fun b h => Nat.lt_of_lt_of_le (HRW.out.2.2 b h) hb.size
         have HI:=Lh (fun (W : World) (hW : Below wr.heap.size wr W) => HDN.out ▸ IH d W _ x (O1.kept (fun b h => hW.block b (hS2 b h)) d) (HRW.out.2.1 x hxm) (fun b h => Nat.lt_of_lt_of_le (hS2 b h) hW.size))
         have htk : o.kids.take (k + 1) = o.kids.take k ++ [x]:=by
           have hk' : k < o.kids.length:=by rw [HNK.out.1];exact hlt
           rw [List.take_succ_eq_append_getElem hk',← hx];simp [List.getD,hk']
         have hdr : o.kids = o.kids.take k ++ x :: o.kids.drop (k + 1):=by
           have hk' : k < o.kids.length:=by rw [HNK.out.1];exact hlt
           conv => lhs;rw [← List.take_append_drop k o.kids]
           rw [List.drop_eq_getElem_cons hk',← hx];simp [List.getD,hk']
         have HT:=Lh (And.intro htk hdr)
         unfold objCells at HI
         obtain ⟨y,hy⟩ : ∃ y,checkB n x = y:=⟨_,rfl⟩
         rw [hy] at HI
         have HY:=Lh hy
         have L1:=hS2 b s1
         have hszr:=hb.size
         clear hRw hx hxm O1 hS2 htk hdr hy
         cases hy0 : (y != 0)
         · have HY0:=Lh hy0
           go_wp2_with fail
           refine (HI.out _ bel).mono ?_
           rintro e w4 ⟨rfl,hb4⟩
           go_wp2
           go_roundw
           case rel => exact ⟨k + 1,by omega,by go_num,bel,Lh (fun z hz => by
             rw [HT.out.1,List.mem_append] at hz
             rcases hz with hz | hz
             · exact HA.out z hz
             · simp only [List.mem_singleton] at hz;subst hz;rw [HY.out];simpa using HY0.out)⟩
           case measure => simp [intOf];omega
         · have HY0:=Lh hy0
           have HR1:=Lh (show firstBad (o.kids.map (checkB n)) = y by
             rw [HT.out.2,List.map_append,List.map_cons,HY.out]
             exact firstBad_snoc (fun z hz => by obtain ⟨u,hu,rfl⟩:=List.mem_map.1 hz;exact HA.out u hu) (by simpa using HY0.out) _)
           go_wp2_with fail
           refine (HI.out _ bel).mono ?_
           rintro e w4 ⟨rfl,hb4⟩
           go_wp2
           go_ret
           exact ⟨ret_int (by rw [← HC.out,← HR1.out];rfl),bel⟩
       · have HR1 := Lib.hid (show firstBad (o.kids.map (checkB n)) = 0 by
           have hkn : k = nk:=by omega
           refine firstBad_zero fun z hz => ?_
           obtain ⟨u,hu,rfl⟩:=List.mem_map.1 hz
           refine HA.out u ?_
           rw [List.take_of_length_le (by rw [HNK.out.1];omega)];exact hu)
         go_wp2
         go_ret
         exact ⟨ret_int (by rw [← HC.out,← HR1.out];rfl),bel⟩
   · have e9 : (K == 9) = false:=by simpa using hq9
     clear hq1 hq2 hq9
     go_enter Tryz.func68,Tryz.ntmps68
     go_wp2_with fail
     refine (HU.out _).mono ?_
     rintro e w1 ⟨rfl,hb1⟩
     obtain ⟨hc1,hf1⟩:=bcell hb1
     have hz1:=hb1.size
     simp at hz1
     cases hq3 : fitsB o
     · rw [hq3] at hC HFI
       have HC:=Lh hC
       clear hC hq3
       go_wp2_with fail
       refine (HFI.out _).mono ?_
       rintro e w2 ⟨rfl,hb2⟩
       go_wp2
       go_ret
       exact ⟨ret_int (by rw [← HC.out];rfl),bel⟩
     rw [hq3] at hC HFI
     clear hq3
     go_wp2_with fail
     refine (HFI.out _).mono ?_
     rintro e w2 ⟨rfl,hb2⟩
     obtain ⟨hc2,hf2⟩:=bcell hb2
     have hz2:=hb2.size
     have q0 : w2.cell? ⟨w.heap.size,0,none⟩ = some (.int .i64 K):=by rw [hc2 _ _ (by omega),hc1 _ _ (by simp)];simp [go_sem]
     have q3 : w2.cell? ⟨w.heap.size,3,none⟩ = some (.string ss):=by rw [hc2 _ _ (by omega),hc1 _ _ (by simp)];simp [go_sem]
     have q1 : w2.cell? ⟨w.heap.size,1,none⟩ = some (.int .i64 o.n):=by rw [hc2 _ _ (by omega),hc1 _ _ (by simp)];simp [go_sem]
     have q2 : w2.cell? ⟨w.heap.size,2,none⟩ = some (.int .i64 o.g):=by rw [hc2 _ _ (by omega),hc1 _ _ (by simp)];simp [go_sem]
     have q4 : w2.cell? ⟨w.heap.size,4,none⟩ = some (.slice p1 o.keys.length c1):=by rw [hc2 _ _ (by omega),hc1 _ _ (by simp)];simp [go_sem]
     have q5 : w2.cell? ⟨w.heap.size,5,none⟩ = some (.slice p2 nk c2):=by rw [hc2 _ _ (by omega),hc1 _ _ (by simp)];simp [go_sem]
     have hbw2 : Below w.heap.size w w2:=bel
     clear hc1 hf1 hc2 hf2
     by_cases hq4 : LG < ss.size
     · rw [if_pos hq4] at hC
       have HC:=Lh hC
       clear hC
       go_wp2
       go_quiet ((go_at_call 115;exact Calls.quiet_of_same (HLO.out _)))
       go_wp2
       go_ret
       exact ⟨ret_int (by rw [← HC.out];rfl),bel⟩
     rw [if_neg hq4] at hC
     have hz12 : w.heap.size + 1 ≤ w2.heap.size:=by omega
     by_cases hq5 : 8191 < nk
     · rw [if_pos hq5] at hC
       have HC:=Lh hC
       clear hC
       go_wp2
       go_quiet ((go_at_call 115;exact Calls.quiet_of_same (HLO.out _)))
       go_wp2
       go_ret
       exact ⟨ret_int (by rw [← HC.out];rfl),bel⟩
     rw [if_neg hq5] at hC
     cases hq6 : keysB o
     · rw [hq6] at HKE hC
       have HC:=Lh hC
       clear hC hq6
       go_wp2
       go_quiet ((go_at_call 115;exact Calls.quiet_of_same (HLO.out _)))
       go_wp2_with fail
       refine (HKE.out _ bel).mono ?_
       rintro e w3 ⟨rfl,hb3⟩
       go_wp2
       go_ret
       exact ⟨ret_int (by rw [← HC.out];rfl),bel⟩
     rw [hq6] at HKE hC
     have HC:=Lh hC
     clear hC hq6
     go_wp2
     go_quiet ((go_at_call 115;exact Calls.quiet_of_same (HLO.out _)))
     go_wp2_with fail
     refine (HKE.out _ bel).mono ?_
     rintro e w3 ⟨rfl,hb3⟩
     obtain ⟨hc3,hf3⟩:=bcell hb3
     have hz3:=hb3.size
     have r5 : w3.cell? ⟨w.heap.size,5,none⟩ = some (.slice p2 nk c2):=(hc3 _ _ (by simp;omega)).trans (by simpa using q5)
     clear hc3 hf3
     have hbw3 : Below w.heap.size w w3:=bel
     have hq8 : decide (8191 < (nk : Int)) = false:=by simp;omega
     go_wp2
     clear r5
     go_loopw [42] (fun i wr => ∃ k : Nat,k ≤ nk ∧ i = .int .i64 k ∧ Below w.heap.size w wr ∧ Hid (∀ x ∈ o.kids.take k,checkB n x = 0)) (fun i _ => nk - (intOf i).toNat)
     case atStart => exact ⟨0,Nat.zero_le _,rfl,bel,Lh (by simp)⟩
     case round =>
       obtain ⟨k,hk,rfl,hb,HA⟩:=hrel
       by_cases hlt : k < nk
       · have hRw : RowAt S d wr (.slice p2 nk c2) o.kids := by
           have:=HRW.out.1.kept (fun b h => hb.block b (HRW.out.2.2 b h));exact this
         obtain ⟨b,off,rfl⟩ : ∃ b off,p2 = some ⟨b,off,none⟩:=by
           rcases hRw with ⟨e,_⟩ | ⟨b,off,c,e,_⟩
           · have:=HNK.out.1;rw [e] at this;simp at this;omega
           · cases e;exact ⟨_,_,rfl⟩
         obtain ⟨x,p3,n3,e3,p4,n4,e4,hx,hxm,s1,O1,f0,f1,f2,f3,f4,f5⟩:=row_kid hRw HNK.out.1 k hlt
         have hS2 : ∀ b,S b → b < wr.heap.size:=fun b h => Nat.lt_of_lt_of_le (HRW.out.2.2 b h) hb.size
         have HI:=Lh (fun (W : World) (hW : Below wr.heap.size wr W) => HDN.out ▸ IH d W _ x (O1.kept (fun b h => hW.block b (hS2 b h)) d) (HRW.out.2.1 x hxm) (fun b h => Nat.lt_of_lt_of_le (hS2 b h) hW.size))
         have htk : o.kids.take (k + 1) = o.kids.take k ++ [x]:=by
           have hk' : k < o.kids.length:=by rw [HNK.out.1];exact hlt
           rw [List.take_succ_eq_append_getElem hk',← hx];simp [List.getD,hk']
         have hdr : o.kids = o.kids.take k ++ x :: o.kids.drop (k + 1):=by
           have hk' : k < o.kids.length:=by rw [HNK.out.1];exact hlt
           conv => lhs;rw [← List.take_append_drop k o.kids]
           rw [List.drop_eq_getElem_cons hk',← hx];simp [List.getD,hk']
         have HT:=Lh (And.intro htk hdr)
         unfold objCells at HI
         obtain ⟨y,hy⟩ : ∃ y,checkB n x = y:=⟨_,rfl⟩
         rw [hy] at HI
         have HY:=Lh hy
         have L1:=hS2 b s1
         have hszr:=hb.size
         clear hRw hx hxm O1 hS2 htk hdr hy
         cases hy0 : (y != 0)
         · have HY0:=Lh hy0
           go_wp2_with fail
           refine (HI.out _ bel).mono ?_
           rintro e w4 ⟨rfl,hb4⟩
           go_wp2
           go_roundw
           case rel => exact ⟨k + 1,by omega,by go_num,bel,Lh (fun z hz => by
             rw [HT.out.1,List.mem_append] at hz
             rcases hz with hz | hz
             · exact HA.out z hz
             · simp only [List.mem_singleton] at hz;subst hz;rw [HY.out];simpa using HY0.out)⟩
           case measure => simp [intOf];omega
         · have HY0:=Lh hy0
           have HR1:=Lh (show firstBad (o.kids.map (checkB n)) = y by
             rw [HT.out.2,List.map_append,List.map_cons,HY.out]
             exact firstBad_snoc (fun z hz => by obtain ⟨u,hu,rfl⟩:=List.mem_map.1 hz;exact HA.out u hu) (by simpa using HY0.out) _)
           go_wp2_with fail
           refine (HI.out _ bel).mono ?_
           rintro e w4 ⟨rfl,hb4⟩
           go_wp2
           go_ret
           exact ⟨ret_int (by rw [← HC.out,← HR1.out];rfl),bel⟩
       · have HR1 := Lib.hid (show firstBad (o.kids.map (checkB n)) = 0 by
           have hkn : k = nk:=by omega
           refine firstBad_zero fun z hz => ?_
           obtain ⟨u,hu,rfl⟩:=List.mem_map.1 hz
           refine HA.out u ?_
           rw [List.take_of_length_le (by rw [HNK.out.1];omega)];exact hu)
         go_wp2
         go_ret
         exact ⟨ret_int (by rw [← HC.out,← HR1.out];rfl),bel⟩
 · rw [hq2] at hC
   have hq9 : K = 9:=by simp at hq2;exact hq2.1
   have hD3 : 1 < D:=by simp at hq2;exact hq2.2
   subst hq9
   have HC:=Lh hC
   clear hC hq1 hq2
   go_enter Tryz.func68,Tryz.ntmps68
   go_wp2_with fail
   refine (HU.out _).mono ?_
   rintro e w1 ⟨rfl,hb1⟩
   obtain ⟨hc1,hf1⟩:=bcell hb1
   have hz1:=hb1.size
   simp at hz1
   go_wp2
   go_ret
   exact ⟨ret_int (by rw [← HC.out];rfl),bel⟩
theorem Check_in (S : Nat → Prop) (d : Nat) (w : World) (cs : List Value) (o : Ob) (h : ObjAt S d w cs o) (hsm : smallO d o) (hS : ∀ b, S b → b < w.heap.size) (HC : CheckC S 24) :
   Calls Tryz.prog 39 #[.agg cs.toArray] w fun e w' => e = .returned (.int .i64 (checkB 24 o)) ∧ Below w.heap.size w w':=by
 have HH:=Lh (fun (W : World) (hW : Below w.heap.size w W) => HC d W cs o (h.kept (fun b h => hW.block b (hS b h)) d) hsm (fun b h => Nat.lt_of_lt_of_le (hS b h) hW.size))
 obtain ⟨p1,c1,p2,c2,rfl⟩:=h.form2
 unfold objCells at HH
 unfold objCells
 clear h hS HC
 go_enter Tryz.func39,Tryz.ntmps39
 go_wp2_with fail
 refine (HH.out _ bel).mono ?_
 rintro e w1 ⟨rfl,hb1⟩
 go_wp2
 go_ret
 exact ⟨rfl,bel⟩
theorem check_in (S : Nat → Prop) : ∀ n,n ≤ 24 → CheckC S n
 | 0,_ => check_zero S
 | n + 1,h => check_step S n (by omega) (check_in S n (by omega))
end Go.Proofs.YtinafodpgjbedaaGreatDoor
