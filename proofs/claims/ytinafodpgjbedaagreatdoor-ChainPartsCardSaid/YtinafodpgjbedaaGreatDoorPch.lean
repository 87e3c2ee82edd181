/- Parts of the proof: CheckB VaA VaB CheckC VaC VaD VaE. -/
import Derived.Test.YtinafodpgjbedaaGreatDoorPcCheckA
import Derived.Sort.Walk0
import Derived.Lib.IndexLaws
import Derived.Deep.Cut
import Derived.Deep.CutBlock
import Derived.Recover
import Derived.Test.YtinafodpgjbedaaGreatDoorPca
set_option linter.all false
set_option maxRecDepth 100000
set_option maxHeartbeats 8000000
namespace Go.Proofs.YtinafodpgjbedaaGreatDoor
open Go.RowKit Fo
theorem key_at {S : Nat → Prop} {w : World} {b off n c : Nat} {ks : List L} (h : KeysAt S w (.slice (some ⟨b, off, none⟩) n c) ks) (hn : ks.length = n) (k : Nat) (hk : k < n) :
   S b ∧ w.cell? ⟨b,off + k,none⟩ = some (.string ⟨(ks.getD k []).toArray⟩):=by
 rcases h with ⟨rfl,p,c',h1⟩ | ⟨b',off',c',h1,h2,h3⟩
 · simp at hn;omega
 · cases h1
   have hk' : k < ks.length:=by omega
   exact ⟨h2,by have:=h3 k hk';simpa [List.getD,hk'] using this⟩
theorem rowKinds {S : Nat → Prop} {d : Nat} {w : World} {b off n c : Nat} {os : List Ob} (h : RowAt S d w (.slice (some ⟨b, off, none⟩) n c) os) (hn : os.length = n) (k : Nat) (hk : k < n) :
   S b ∧ w.cell? ⟨b,off + k * 6,none⟩ = some (.int .i64 (os.getD k .zero).kind):=by
 obtain ⟨o,p1,n1,c1,p2,n2,c2,h1,h2,h3,h4,h5,_⟩:=row_kid h hn k hk
 rw [h1];exact ⟨h3,h5⟩
theorem keysB_false {o : Ob} {k : Nat} (h7 : o.kind = 7 ∨ o.kind = 9) (hk : k < o.keys.length) (h : keyAt o k = false) : keysB o = false:=by
 unfold keysB
 rw [if_neg (by omega),if_neg (by omega)]
 rw [Bool.and_eq_false_iff];right
 rw [List.all_eq_false]
 exact ⟨k,List.mem_range.2 hk,by simp [h]⟩
theorem vmust_yes (k : Int) (w : World) : Calls Tryz.prog 107 #[.bool true,.int .i64 k] w fun e w' => e = .returned (.tuple #[]) ∧ w' = w:=by
 go_enter Tryz.func107,Tryz.ntmps107
 go_wp2
 go_end0
 exact ⟨rfl,rfl⟩
theorem vmust_no (k : Int) (w : World) : Calls Tryz.prog 107 #[.bool false,.int .i64 k] w fun e w' => e = (.panicked [{ v:=.iface 167 (.agg #[.int .i64 k]),recovered:=false }]) ∧ w' = w:=by
 go_enter Tryz.func107,Tryz.ntmps107
 go_wp2
 exact ⟨rfl,rfl,rfl⟩
theorem within_in (n a b : Int) (w : World) : Calls Tryz.prog 145 #[.int .i64 n,.int .i64 a,.int .i64 b] w fun e w' => e = .returned (.bool (decide (a ≤ n) && decide (n ≤ b))) ∧ w' = w:=by
 go_enter Tryz.func145,Tryz.ntmps145
 go_wp2
 all_goals go_ret
 all_goals exact ⟨ret_bool (by simp_all;try omega),rfl⟩
theorem withinI_in (n a b : Int) (w : World) : Calls Tryz.prog 146 #[.int .i64 n,.int .i64 a,.int .i64 b] w fun e w' => e = .returned (.bool (decide (a ≤ n) && decide (n ≤ b))) ∧ w' = w:=by
 go_enter Tryz.func146,Tryz.ntmps146
 go_wp2
 all_goals go_ret
 all_goals exact ⟨ret_bool (by simp_all;try omega),rfl⟩
theorem zero_ix (l : L) : decide (Lib.indexByte l 0 < 0) = l.all (· != 0):=by
 cases h : l.all (· != 0)
 · rw [decide_eq_false_iff_not]
   intro hlt
   have hge:=Lib.indexByte_ge l 0
   have hn:=Lib.indexByte_none (show Lib.indexByte l 0 = -1 by omega)
   rw [List.all_eq_false] at h
   obtain ⟨x,hx,hx0⟩:=h
   obtain ⟨k,hk,rfl⟩:=List.mem_iff_getElem.1 hx
   refine hn k ?_
   rw [List.getElem?_eq_getElem hk]
   simp at hx0
   rw [hx0]
 · rw [decide_eq_true_eq]
   apply Classical.byContradiction
   intro hnl
   obtain ⟨o,ho⟩ : ∃ o : Nat,Lib.indexByte l 0 = o:=⟨(Lib.indexByte l 0).toNat,by omega⟩
   have:=(Lib.indexByte_some ho).1
   obtain ⟨hlt,he⟩:=List.getElem?_eq_some_iff.1 this
   rw [List.all_eq_true] at h
   have:=h _ (List.getElem_mem hlt)
   rw [he] at this
   simp at this
theorem vkey_in (x : L) (hx : x.length ≤ 140737488355328) (w : World) : Calls Tryz.prog 111 #[.string ⟨x.toArray⟩] w fun e w' => e = .returned (.bool (nameB x)) ∧ w' = w:=by
 have H:=Lh (show nameB x = (decide (x.length ≤ 127) && decide (Lib.indexByte x 0 < 0)) by rw [zero_ix,Bool.and_comm];rfl)
 by_cases h : x.length ≤ 127
 · have d1 : decide ((x.length : Int) ≤ 127) = true:=by simp;omega
   have HR:=Lh (show nameB x = decide (Lib.indexByte x 0 < 0) by rw [H.out,decide_eq_true h,Bool.true_and])
   clear h hx
   go_enter Tryz.func111,Tryz.ntmps111
   go_wp2_with (go_at_call 147;refine (Tryz.strings_IndexByte _ _ _).mono ?_;rintro e w' ⟨rfl,rfl⟩)
   go_ret
   exact ⟨ret_bool (by rw [HR.out]),rfl⟩
 · have d1 : decide ((x.length : Int) ≤ 127) = false:=by simp;omega
   have HR:=Lh (show nameB x = false by rw [H.out,decide_eq_false h,Bool.false_and])
   clear h hx
   go_enter Tryz.func111,Tryz.ntmps111
   go_wp2
   go_ret
   exact ⟨ret_bool HR.out.symm,rfl⟩
def usedV (K : Int) : Bool × Bool × Bool × Bool × Bool × Bool :=
 if K = 0 then (false,false,false,false,false,true)
 else if K = 1 ∨ K = 2 ∨ K = 3 then (true,false,false,false,false,true)
 else if K = 4 ∨ K = 5 then (false,false,true,false,false,true)
 else if K = 6 then (false,false,false,false,true,true)
 else if K = 7 then (false,false,false,true,true,true)
 else if K = 8 then (true,true,false,false,false,true)
 else if K = 9 then (false,false,true,true,true,true)
 else (false,false,false,false,false,false)
def usedR (u : Bool × Bool × Bool × Bool × Bool × Bool) : Value:=.tuple #[.agg #[.bool u.1,.bool u.2.1,.bool u.2.2.1,.bool u.2.2.2.1,.bool u.2.2.2.2.1],.bool u.2.2.2.2.2]
theorem used_in (K : Int) (w : World) : Calls Tryz.prog 108 #[.int .i64 K] w fun e w' => e = .returned (usedR (usedV K)) ∧ Below w.heap.size w w':=by
 by_cases h0 : K = 0
 · subst h0
   go_enter Tryz.func108,Tryz.ntmps108
   go_wp2
   refine bodyPost_ret (v:=usedR (false,false,false,false,false,true)) (by simp [results,Tryz.results108,go_sem,usedR]) rfl ⟨rfl,bel⟩
 by_cases h1 : K = 1
 · subst h1
   go_enter Tryz.func108,Tryz.ntmps108
   go_wp2
   refine bodyPost_ret (v:=usedR (true,false,false,false,false,true)) (by simp [results,Tryz.results108,go_sem,usedR]) rfl ⟨rfl,bel⟩
 by_cases h2 : K = 2
 · subst h2
   go_enter Tryz.func108,Tryz.ntmps108
   go_wp2
   refine bodyPost_ret (v:=usedR (true,false,false,false,false,true)) (by simp [results,Tryz.results108,go_sem,usedR]) rfl ⟨rfl,bel⟩
 by_cases h3 : K = 3
 · subst h3
   go_enter Tryz.func108,Tryz.ntmps108
   go_wp2
   refine bodyPost_ret (v:=usedR (true,false,false,false,false,true)) (by simp [results,Tryz.results108,go_sem,usedR]) rfl ⟨rfl,bel⟩
 by_cases h4 : K = 4
 · subst h4
   go_enter Tryz.func108,Tryz.ntmps108
   go_wp2
   refine bodyPost_ret (v:=usedR (false,false,true,false,false,true)) (by simp [results,Tryz.results108,go_sem,usedR]) rfl ⟨rfl,bel⟩
 by_cases h5 : K = 5
 · subst h5
   go_enter Tryz.func108,Tryz.ntmps108
   go_wp2
   refine bodyPost_ret (v:=usedR (false,false,true,false,false,true)) (by simp [results,Tryz.results108,go_sem,usedR]) rfl ⟨rfl,bel⟩
 by_cases h6 : K = 6
 · subst h6
   go_enter Tryz.func108,Tryz.ntmps108
   go_wp2
   refine bodyPost_ret (v:=usedR (false,false,false,false,true,true)) (by simp [results,Tryz.results108,go_sem,usedR]) rfl ⟨rfl,bel⟩
 by_cases h7 : K = 7
 · subst h7
   go_enter Tryz.func108,Tryz.ntmps108
   go_wp2
   refine bodyPost_ret (v:=usedR (false,false,false,true,true,true)) (by simp [results,Tryz.results108,go_sem,usedR]) rfl ⟨rfl,bel⟩
 by_cases h8 : K = 8
 · subst h8
   go_enter Tryz.func108,Tryz.ntmps108
   go_wp2
   refine bodyPost_ret (v:=usedR (true,true,false,false,false,true)) (by simp [results,Tryz.results108,go_sem,usedR]) rfl ⟨rfl,bel⟩
 by_cases h9 : K = 9
 · subst h9
   go_enter Tryz.func108,Tryz.ntmps108
   go_wp2
   refine bodyPost_ret (v:=usedR (false,false,true,true,true,true)) (by simp [results,Tryz.results108,go_sem,usedR]) rfl ⟨rfl,bel⟩
 rw [show usedV K = (false,false,false,false,false,false) by simp_all [usedV]]
 have e0 : (K == 0) = false:=by simpa using h0
 have e1 : (K == 1) = false:=by simpa using h1
 have e2 : (K == 2) = false:=by simpa using h2
 have e3 : (K == 3) = false:=by simpa using h3
 have e4 : (K == 4) = false:=by simpa using h4
 have e5 : (K == 5) = false:=by simpa using h5
 have e6 : (K == 6) = false:=by simpa using h6
 have e7 : (K == 7) = false:=by simpa using h7
 have e8 : (K == 8) = false:=by simpa using h8
 have e9 : (K == 9) = false:=by simpa using h9
 clear h0 h1 h2 h3 h4 h5 h6 h7 h8 h9
 go_enter Tryz.func108,Tryz.ntmps108
 go_wp2
 refine bodyPost_ret (v:=usedR (false,false,false,false,false,false)) (by simp [results,Tryz.results108,go_sem,usedR]) rfl ⟨rfl,bel⟩
theorem vfits_in (K N G : Int) (s : L) (p1 p2 : Option Addr) (n1 c1 n2 c2 : Nat) (w : World) :
   Calls Tryz.prog 109 #[.agg #[.int .i64 K,.int .i64 N,.int .i64 G,.string ⟨s.toArray⟩,.slice p1 n1 c1,.slice p2 n2 c2]] w fun e w' => e = .returned (.bool (fitsV K N G)) ∧ Below w.heap.size w w':=by
 have HW:=Lh (fun n a b W => within_in n a b W)
 have HI:=Lh (fun n a b W => withinI_in n a b W)
 go_enter Tryz.func109,Tryz.ntmps109
 go_wp2_with (first | (go_at_call 145;refine (HW.out _ _ _ _).mono ?_;rintro e w1 ⟨rfl,rfl⟩) | (go_at_call 146;refine (HI.out _ _ _ _).mono ?_;rintro e w1 ⟨rfl,rfl⟩))
 all_goals go_ret
 all_goals exact ⟨ret_bool (by unfold fitsV;simp_all;try (first | omega | (rw [Bool.eq_iff_iff];simp;omega))),bel⟩
def shortV (K : Int) (n : Nat) : Bool:=if K = 4 then decide (n ≤ 32767) else if K = 5 then decide (n ≤ 127) else decide (n ≤ 1048576)
theorem vshort_in (K N G : Int) (s : L) (p1 p2 : Option Addr) (n1 c1 n2 c2 : Nat) (w : World) :
   Calls Tryz.prog 110 #[.agg #[.int .i64 K,.int .i64 N,.int .i64 G,.string ⟨s.toArray⟩,.slice p1 n1 c1,.slice p2 n2 c2]] w fun e w' => e = .returned (.bool (shortV K s.length)) ∧ Below w.heap.size w w':=by
 obtain ⟨ss,hss⟩ : ∃ ss : ByteArray,ss = ⟨s.toArray⟩:=⟨_,rfl⟩
 have hsz : s.length = ss.size:=by rw [hss];rfl
 rw [← hss,hsz]
 clear hss hsz
 go_enter Tryz.func110,Tryz.ntmps110
 go_wp2
 all_goals go_ret
 all_goals exact ⟨ret_bool (by unfold shortV;simp_all;try omega),bel⟩
theorem vkeys_dict (S : Nat → Prop) (d : Nat) (o : Ob) (b1 f1 c1 b2 f2 c2 : Nat) (w : World) (hK : KeysAt S w (.slice (some ⟨b1,f1,none⟩) o.keys.length c1) o.keys) (hR : RowAt S d w (.slice (some ⟨b2,f2,none⟩) o.kids.length c2) o.kids) (hS : ∀ b,S b → b < w.heap.size) (hk : o.kind = 7) (hl : o.keys.length = o.kids.length) (hle : o.keys.length ≤ 140737488355328) (hx : ∀ x ∈ o.keys,x.length ≤ 140737488355328) : Calls Tryz.prog 112 #[.agg #[.int .i64 o.kind,.int .i64 o.n,.int .i64 o.g,.string ⟨o.s.toArray⟩,.slice (some ⟨b1,f1,none⟩) o.keys.length c1,.slice (some ⟨b2,f2,none⟩) o.kids.length c2]] w fun e w' => e = .returned (.bool (keysB o)) ∧ Below w.heap.size w w':=by
 obtain ⟨n,hn⟩ : ∃ n,o.keys.length = n:=⟨_,rfl⟩
 have HK:=Lh hK
 have HR:=Lh hR
 have HS:=Lh hS
 have HX:=Lh hx
 rw [← hl,hn]
 rw [hn] at hle
 have HN:=Lh (And.intro hn (hl.symm.trans hn))
 rw [hk]
 have HK0:=Lh hk
 clear hK hR hS hn hl hx hk
 go_enter Tryz.func112,Tryz.ntmps112
 go_wp2
 go_loopw [15] (fun i wr => ∃ k : Nat,k ≤ n ∧ i = .int .i64 k ∧ Below (w.heap.size + 1) (w.alloc (.cells #[.int .i64 7,.int .i64 o.n,.int .i64 o.g,.string ⟨o.s.toArray⟩,.slice (some ⟨b1,f1,none⟩) n c1,.slice (some ⟨b2,f2,none⟩) n c2] 36)) wr ∧ Hid (∀ j,j < k → keyAt o j = true)) (fun i _ => n - (intOf i).toNat)
 case atStart => exact ⟨0,Nat.zero_le _,rfl,bel,Lh (by intro j hj;omega)⟩
 case round =>
   obtain ⟨k,hk,rfl,hb,HA⟩:=hrel
   by_cases hlt : k < n
   · have hbw : Below w.heap.size w wr:=(show Below w.heap.size w (w.alloc _) from bel).trans (hb.mono (by omega))
     obtain ⟨s1,g1⟩:=key_at (HK.out.kept (fun b h => hbw.block b (HS.out b h))) rfl k (by rw [HN.out.1];exact hlt)
     obtain ⟨s2,g2⟩:=rowKinds (HR.out.kept (fun b h => hbw.block b (HS.out b h))) rfl k (by rw [HN.out.2];exact hlt)
     have hp : 0 < k → wr.cell? ⟨b1,f1 + (k - 1),none⟩ = some (.string ⟨(o.keys.getD (k - 1) []).toArray⟩):=fun h => (key_at (HK.out.kept (fun b h => hbw.block b (HS.out b h))) rfl (k - 1) (by rw [HN.out.1];omega)).2
     obtain ⟨x,hx⟩ : ∃ x,o.keys.getD k [] = x:=⟨_,rfl⟩
     obtain ⟨y,hy⟩ : ∃ y,o.keys.getD (k - 1) [] = y:=⟨_,rfl⟩
     obtain ⟨kk,hkk⟩ : ∃ kk,(o.kids.getD k .zero).kind = kk:=⟨_,rfl⟩
     rw [hx] at g1
     rw [hy] at hp
     rw [hkk] at g2
     have c0 : wr.cell? ⟨w.heap.size,0,none⟩ = some (.int .i64 7):=by rw [hb.cell (p:=⟨w.heap.size,0,none⟩) (by show w.heap.size < _;omega)];simp [World.cell?_alloc_at]
     have c4 : wr.cell? ⟨w.heap.size,4,none⟩ = some (.slice (some ⟨b1,f1,none⟩) n c1):=by rw [hb.cell (p:=⟨w.heap.size,4,none⟩) (by show w.heap.size < _;omega)];simp [World.cell?_alloc_at]
     have c5 : wr.cell? ⟨w.heap.size,5,none⟩ = some (.slice (some ⟨b2,f2,none⟩) n c2):=by rw [hb.cell (p:=⟨w.heap.size,5,none⟩) (by show w.heap.size < _;omega)];simp [World.cell?_alloc_at]
     have hxm : x.length ≤ 140737488355328:=by
       rw [← hx]; exact HX.out _ (by have : k < o.keys.length := by rw [HN.out.1]; exact hlt
                                     simp [List.getD,this])
     have HNM:=Lh (fun W => vkey_in x hxm W)
     have HC:=Lh (show keyAt o k = (nameB x && (k == 0 || decide (y < x)) && !(x == wLength && o.kind == 9) && kk != 0) by unfold keyAt;rw [hx,hy,hkk])
     have HF:=Lh (fun h => keysB_false (o:=o) (k:=k) (by rw [HK0.out];decide) (by rw [HN.out.1];exact hlt) h)
     have hk9:=HK0.out
     rw [hk9] at HC
     clear hx hy hkk hxm hbw hk9
     cases hq : nameB x
     · rw [hq] at HC HNM
       have HF1:=Lh (HF.out (by rw [HC.out];simp))
       clear hp hq
       go_wp2_with (go_at_call 111;refine (HNM.out _).mono ?_;rintro e w1 ⟨rfl,rfl⟩)
       all_goals go_ret
       all_goals exact ⟨ret_bool HF1.out.symm,bel⟩
     · rw [hq] at HC HNM
       cases hle : (decide (0 < k) && !(Op.bytesLess y x))
       · have hle2 : 0 < k → Op.bytesLess y x = true:=fun h => by simpa [h] using hle
         have HC2:=Lh (show keyAt o k = (!(x == wLength && (7 : Int) == 9) && kk != 0) by
           rw [HC.out]
           by_cases h0 : k = 0
           · subst h0;simp
           · have:=hle2 (by omega)
             rw [bytesLess_eq] at this;rw [this];simp)
         clear hle HC
         have HZ0:=Lh (show kk = 0 ∨ ¬ kk = 0 from Classical.em _)
         by_cases hw : x = ([76,101,110,103,116,104] : L)
         · subst hw
           cases hz : (kk == 0)
           · have HZ:=Lh hz
             by_cases h0 : 0 < k
             · have hp':=hp h0
               have h1:=hle2 h0
               clear hp hle2
               go_wp2_with (go_at_call 111;refine (HNM.out _).mono ?_;rintro e w1 ⟨rfl,rfl⟩)
               go_roundw
               case rel => exact ⟨k + 1,by omega,by go_num,by exact hb,Lh (fun j hj => by
                 by_cases hjk : j < k
                 · exact HA.out j hjk
                 · have : j = k:=by omega
                   subst this
                   rw [HC2.out];have a2:=HZ.out;first | (simp [wLength];done) | (simp [wLength] at a2 ⊢;exact a2) | (simp [wLength,HW.out] at a2 ⊢;exact a2))⟩
               case measure => simp [intOf];omega
             · have hk0 : k = 0:=by omega
               subst hk0
               simp only [Nat.add_zero,Nat.zero_mul] at g1 g2
               clear hp hle2
               go_wp2_with (go_at_call 111;refine (HNM.out _).mono ?_;rintro e w1 ⟨rfl,rfl⟩)
               go_roundw
               case rel => exact ⟨1,by omega,by go_num,by exact hb,Lh (fun j hj => by
                 by_cases hjk : j < 0
                 · exact HA.out j hjk
                 · have : j = 0:=by omega
                   subst this
                   rw [HC2.out];have a2:=HZ.out;first | (simp [wLength];done) | (simp [wLength] at a2 ⊢;exact a2) | (simp [wLength,HW.out] at a2 ⊢;exact a2))⟩
               case measure => simp [intOf];omega
           · have HZ:=Lh hz
             by_cases h0 : 0 < k
             · have hp':=hp h0
               have h1:=hle2 h0
               clear hp hle2
               go_wp2_with (go_at_call 111;refine (HNM.out _).mono ?_;rintro e w1 ⟨rfl,rfl⟩)
               go_ret
               exact ⟨ret_bool (HF.out (by rw [HC2.out];have a2:=HZ.out;first | (simp [wLength];done) | (simp [wLength] at a2 ⊢;exact a2) | (simp [wLength,HW.out] at a2 ⊢;exact a2))).symm,bel⟩
             · have hk0 : k = 0:=by omega
               subst hk0
               simp only [Nat.add_zero,Nat.zero_mul] at g1 g2
               clear hp hle2
               go_wp2_with (go_at_call 111;refine (HNM.out _).mono ?_;rintro e w1 ⟨rfl,rfl⟩)
               go_ret
               exact ⟨ret_bool (HF.out (by rw [HC2.out];have a2:=HZ.out;first | (simp [wLength];done) | (simp [wLength] at a2 ⊢;exact a2) | (simp [wLength,HW.out] at a2 ⊢;exact a2))).symm,bel⟩
         · have hw' : (x == ([76,101,110,103,116,104] : L)) = false:=by simpa using hw
           have HW:=Lh hw'
           cases hz : (kk == 0)
           · have HZ:=Lh hz
             by_cases h0 : 0 < k
             · have hp':=hp h0
               have h1:=hle2 h0
               clear hp hle2
               go_wp2_with (go_at_call 111;refine (HNM.out _).mono ?_;rintro e w1 ⟨rfl,rfl⟩)
               go_roundw
               case rel => exact ⟨k + 1,by omega,by go_num,by exact hb,Lh (fun j hj => by
                 by_cases hjk : j < k
                 · exact HA.out j hjk
                 · have : j = k:=by omega
                   subst this
                   rw [HC2.out];have a2:=HZ.out;first | (simp [wLength];done) | (simp [wLength] at a2 ⊢;exact a2) | (simp [wLength,HW.out] at a2 ⊢;exact a2))⟩
               case measure => simp [intOf];omega
             · have hk0 : k = 0:=by omega
               subst hk0
               simp only [Nat.add_zero,Nat.zero_mul] at g1 g2
               clear hp hle2
               go_wp2_with (go_at_call 111;refine (HNM.out _).mono ?_;rintro e w1 ⟨rfl,rfl⟩)
               go_roundw
               case rel => exact ⟨1,by omega,by go_num,by exact hb,Lh (fun j hj => by
                 by_cases hjk : j < 0
                 · exact HA.out j hjk
                 · have : j = 0:=by omega
                   subst this
                   rw [HC2.out];have a2:=HZ.out;first | (simp [wLength];done) | (simp [wLength] at a2 ⊢;exact a2) | (simp [wLength,HW.out] at a2 ⊢;exact a2))⟩
               case measure => simp [intOf];omega
           · have HZ:=Lh hz
             by_cases h0 : 0 < k
             · have hp':=hp h0
               have h1:=hle2 h0
               clear hp hle2
               go_wp2_with (go_at_call 111;refine (HNM.out _).mono ?_;rintro e w1 ⟨rfl,rfl⟩)
               go_ret
               exact ⟨ret_bool (HF.out (by rw [HC2.out];have a2:=HZ.out;first | (simp [wLength];done) | (simp [wLength] at a2 ⊢;exact a2) | (simp [wLength,HW.out] at a2 ⊢;exact a2))).symm,bel⟩
             · have hk0 : k = 0:=by omega
               subst hk0
               simp only [Nat.add_zero,Nat.zero_mul] at g1 g2
               clear hp hle2
               go_wp2_with (go_at_call 111;refine (HNM.out _).mono ?_;rintro e w1 ⟨rfl,rfl⟩)
               go_ret
               exact ⟨ret_bool (HF.out (by rw [HC2.out];have a2:=HZ.out;first | (simp [wLength];done) | (simp [wLength] at a2 ⊢;exact a2) | (simp [wLength,HW.out] at a2 ⊢;exact a2))).symm,bel⟩
       · have h0 : 0 < k:=by simp at hle;exact hle.1
         have h1 : Op.bytesLess y x = false:=by simp at hle;exact hle.2
         have HF1 := Lib.hid (HF.out (by rw [HC.out, ← bytesLess_eq, h1]; have : k ≠ 0 := by omega
                                         simp [this]))
         have hp':=hp h0
         clear hp hle
         go_wp2_with (go_at_call 111;refine (HNM.out _).mono ?_;rintro e w1 ⟨rfl,rfl⟩)
         go_ret
         exact ⟨ret_bool HF1.out.symm,bel⟩
   · have HE := Lib.hid (show keysB o = true by
       have hkn : k = n:=by omega
       unfold keysB
       rw [if_neg (by rw [HK0.out];decide),if_neg (by rw [HK0.out];decide),HN.out.1,HN.out.2]
       simp only [beq_self_eq_true,Bool.true_and,List.all_eq_true,List.mem_range]
       intro j hj;exact HA.out j (by omega))
     go_wp2
     go_ret
     exact ⟨ret_bool HE.out.symm,bel⟩
theorem vkeys_stream (S : Nat → Prop) (d : Nat) (o : Ob) (b1 f1 c1 b2 f2 c2 : Nat) (w : World) (hK : KeysAt S w (.slice (some ⟨b1,f1,none⟩) o.keys.length c1) o.keys) (hR : RowAt S d w (.slice (some ⟨b2,f2,none⟩) o.kids.length c2) o.kids) (hS : ∀ b,S b → b < w.heap.size) (hk : o.kind = 9) (hl : o.keys.length = o.kids.length) (hle : o.keys.length ≤ 140737488355328) (hx : ∀ x ∈ o.keys,x.length ≤ 140737488355328) : Calls Tryz.prog 112 #[.agg #[.int .i64 o.kind,.int .i64 o.n,.int .i64 o.g,.string ⟨o.s.toArray⟩,.slice (some ⟨b1,f1,none⟩) o.keys.length c1,.slice (some ⟨b2,f2,none⟩) o.kids.length c2]] w fun e w' => e = .returned (.bool (keysB o)) ∧ Below w.heap.size w w':=by
 obtain ⟨n,hn⟩ : ∃ n,o.keys.length = n:=⟨_,rfl⟩
 have HK:=Lh hK
 have HR:=Lh hR
 have HS:=Lh hS
 have HX:=Lh hx
 rw [← hl,hn]
 rw [hn] at hle
 have HN:=Lh (And.intro hn (hl.symm.trans hn))
 rw [hk]
 have HK0:=Lh hk
 clear hK hR hS hn hl hx hk
 go_enter Tryz.func112,Tryz.ntmps112
 go_wp2
 go_loopw [15] (fun i wr => ∃ k : Nat,k ≤ n ∧ i = .int .i64 k ∧ Below (w.heap.size + 1) (w.alloc (.cells #[.int .i64 9,.int .i64 o.n,.int .i64 o.g,.string ⟨o.s.toArray⟩,.slice (some ⟨b1,f1,none⟩) n c1,.slice (some ⟨b2,f2,none⟩) n c2] 36)) wr ∧ Hid (∀ j,j < k → keyAt o j = true)) (fun i _ => n - (intOf i).toNat)
 case atStart => exact ⟨0,Nat.zero_le _,rfl,bel,Lh (by intro j hj;omega)⟩
 case round =>
   obtain ⟨k,hk,rfl,hb,HA⟩:=hrel
   by_cases hlt : k < n
   · have hbw : Below w.heap.size w wr:=(show Below w.heap.size w (w.alloc _) from bel).trans (hb.mono (by omega))
     obtain ⟨s1,g1⟩:=key_at (HK.out.kept (fun b h => hbw.block b (HS.out b h))) rfl k (by rw [HN.out.1];exact hlt)
     obtain ⟨s2,g2⟩:=rowKinds (HR.out.kept (fun b h => hbw.block b (HS.out b h))) rfl k (by rw [HN.out.2];exact hlt)
     have hp : 0 < k → wr.cell? ⟨b1,f1 + (k - 1),none⟩ = some (.string ⟨(o.keys.getD (k - 1) []).toArray⟩):=fun h => (key_at (HK.out.kept (fun b h => hbw.block b (HS.out b h))) rfl (k - 1) (by rw [HN.out.1];omega)).2
     obtain ⟨x,hx⟩ : ∃ x,o.keys.getD k [] = x:=⟨_,rfl⟩
     obtain ⟨y,hy⟩ : ∃ y,o.keys.getD (k - 1) [] = y:=⟨_,rfl⟩
     obtain ⟨kk,hkk⟩ : ∃ kk,(o.kids.getD k .zero).kind = kk:=⟨_,rfl⟩
     rw [hx] at g1
     rw [hy] at hp
     rw [hkk] at g2
     have c0 : wr.cell? ⟨w.heap.size,0,none⟩ = some (.int .i64 9):=by rw [hb.cell (p:=⟨w.heap.size,0,none⟩) (by show w.heap.size < _;omega)];simp [World.cell?_alloc_at]
     have c4 : wr.cell? ⟨w.heap.size,4,none⟩ = some (.slice (some ⟨b1,f1,none⟩) n c1):=by rw [hb.cell (p:=⟨w.heap.size,4,none⟩) (by show w.heap.size < _;omega)];simp [World.cell?_alloc_at]
     have c5 : wr.cell? ⟨w.heap.size,5,none⟩ = some (.slice (some ⟨b2,f2,none⟩) n c2):=by rw [hb.cell (p:=⟨w.heap.size,5,none⟩) (by show w.heap.size < _;omega)];simp [World.cell?_alloc_at]
     have hxm : x.length ≤ 140737488355328:=by
       rw [← hx]; exact HX.out _ (by have : k < o.keys.length := by rw [HN.out.1]; exact hlt
                                     simp [List.getD,this])
     have HNM:=Lh (fun W => vkey_in x hxm W)
     have HC:=Lh (show keyAt o k = (nameB x && (k == 0 || decide (y < x)) && !(x == wLength && o.kind == 9) && kk != 0) by unfold keyAt;rw [hx,hy,hkk])
     have HF:=Lh (fun h => keysB_false (o:=o) (k:=k) (by rw [HK0.out];decide) (by rw [HN.out.1];exact hlt) h)
     have hk9:=HK0.out
     rw [hk9] at HC
     clear hx hy hkk hxm hbw hk9
     cases hq : nameB x
     · rw [hq] at HC HNM
       have HF1:=Lh (HF.out (by rw [HC.out];simp))
       clear hp hq
       go_wp2_with (go_at_call 111;refine (HNM.out _).mono ?_;rintro e w1 ⟨rfl,rfl⟩)
       all_goals go_ret
       all_goals exact ⟨ret_bool HF1.out.symm,bel⟩
     · rw [hq] at HC HNM
       cases hle : (decide (0 < k) && !(Op.bytesLess y x))
       · have hle2 : 0 < k → Op.bytesLess y x = true:=fun h => by simpa [h] using hle
         have HC2:=Lh (show keyAt o k = (!(x == wLength && (9 : Int) == 9) && kk != 0) by
           rw [HC.out]
           by_cases h0 : k = 0
           · subst h0;simp
           · have:=hle2 (by omega)
             rw [bytesLess_eq] at this;rw [this];simp)
         clear hle HC
         have HZ0:=Lh (show kk = 0 ∨ ¬ kk = 0 from Classical.em _)
         by_cases hw : x = ([76,101,110,103,116,104] : L)
         · subst hw
           have HZ:=HZ0
           by_cases h0 : 0 < k
           · have hp':=hp h0
             have h1:=hle2 h0
             clear hp hle2
             go_wp2_with (go_at_call 111;refine (HNM.out _).mono ?_;rintro e w1 ⟨rfl,rfl⟩)
             go_ret
             exact ⟨ret_bool (HF.out (by rw [HC2.out];have a2:=HZ.out;first | (simp [wLength];done) | (simp [wLength] at a2 ⊢;exact a2) | (simp [wLength,HW.out] at a2 ⊢;exact a2))).symm,bel⟩
           · have hk0 : k = 0:=by omega
             subst hk0
             simp only [Nat.add_zero,Nat.zero_mul] at g1 g2
             clear hp hle2
             go_wp2_with (go_at_call 111;refine (HNM.out _).mono ?_;rintro e w1 ⟨rfl,rfl⟩)
             go_ret
             exact ⟨ret_bool (HF.out (by rw [HC2.out];have a2:=HZ.out;first | (simp [wLength];done) | (simp [wLength] at a2 ⊢;exact a2) | (simp [wLength,HW.out] at a2 ⊢;exact a2))).symm,bel⟩
         · have hw' : (x == ([76,101,110,103,116,104] : L)) = false:=by simpa using hw
           have HW:=Lh hw'
           cases hz : (kk == 0)
           · have HZ:=Lh hz
             by_cases h0 : 0 < k
             · have hp':=hp h0
               have h1:=hle2 h0
               clear hp hle2
               go_wp2_with (go_at_call 111;refine (HNM.out _).mono ?_;rintro e w1 ⟨rfl,rfl⟩)
               go_roundw
               case rel => exact ⟨k + 1,by omega,by go_num,by exact hb,Lh (fun j hj => by
                 by_cases hjk : j < k
                 · exact HA.out j hjk
                 · have : j = k:=by omega
                   subst this
                   rw [HC2.out];have a2:=HZ.out;first | (simp [wLength];done) | (simp [wLength] at a2 ⊢;exact a2) | (simp [wLength,HW.out] at a2 ⊢;exact a2))⟩
               case measure => simp [intOf];omega
             · have hk0 : k = 0:=by omega
               subst hk0
               simp only [Nat.add_zero,Nat.zero_mul] at g1 g2
               clear hp hle2
               go_wp2_with (go_at_call 111;refine (HNM.out _).mono ?_;rintro e w1 ⟨rfl,rfl⟩)
               go_roundw
               case rel => exact ⟨1,by omega,by go_num,by exact hb,Lh (fun j hj => by
                 by_cases hjk : j < 0
                 · exact HA.out j hjk
                 · have : j = 0:=by omega
                   subst this
                   rw [HC2.out];have a2:=HZ.out;first | (simp [wLength];done) | (simp [wLength] at a2 ⊢;exact a2) | (simp [wLength,HW.out] at a2 ⊢;exact a2))⟩
               case measure => simp [intOf];omega
           · have HZ:=Lh hz
             by_cases h0 : 0 < k
             · have hp':=hp h0
               have h1:=hle2 h0
               clear hp hle2
               go_wp2_with (go_at_call 111;refine (HNM.out _).mono ?_;rintro e w1 ⟨rfl,rfl⟩)
               go_ret
               exact ⟨ret_bool (HF.out (by rw [HC2.out];have a2:=HZ.out;first | (simp [wLength];done) | (simp [wLength] at a2 ⊢;exact a2) | (simp [wLength,HW.out] at a2 ⊢;exact a2))).symm,bel⟩
             · have hk0 : k = 0:=by omega
               subst hk0
               simp only [Nat.add_zero,Nat.zero_mul] at g1 g2
               clear hp hle2
               go_wp2_with (go_at_call 111;refine (HNM.out _).mono ?_;rintro e w1 ⟨rfl,rfl⟩)
               go_ret
               exact ⟨ret_bool (HF.out (by rw [HC2.out];have a2:=HZ.out;first | (simp [wLength];done) | (simp [wLength] at a2 ⊢;exact a2) | (simp [wLength,HW.out] at a2 ⊢;exact a2))).symm,bel⟩
       · have h0 : 0 < k:=by simp at hle;exact hle.1
         have h1 : Op.bytesLess y x = false:=by simp at hle;exact hle.2
         have HF1 := Lib.hid (HF.out (by rw [HC.out, ← bytesLess_eq, h1]; have : k ≠ 0 := by omega
                                         simp [this]))
         have hp':=hp h0
         clear hp hle
         go_wp2_with (go_at_call 111;refine (HNM.out _).mono ?_;rintro e w1 ⟨rfl,rfl⟩)
         go_ret
         exact ⟨ret_bool HF1.out.symm,bel⟩
   · have HE := Lib.hid (show keysB o = true by
       have hkn : k = n:=by omega
       unfold keysB
       rw [if_neg (by rw [HK0.out];decide),if_neg (by rw [HK0.out];decide),HN.out.1,HN.out.2]
       simp only [beq_self_eq_true,Bool.true_and,List.all_eq_true,List.mem_range]
       intro j hj;exact HA.out j (by omega))
     go_wp2
     go_ret
     exact ⟨ret_bool HE.out.symm,bel⟩
theorem vkeys_dif (o : Ob) (p1 p2 : Option Addr) (c1 c2 : Nat) (w : World) (h : o.kind = 7 ∨ o.kind = 9) (hl : o.keys.length ≠ o.kids.length) :
   Calls Tryz.prog 112 #[.agg #[.int .i64 o.kind,.int .i64 o.n,.int .i64 o.g,.string ⟨o.s.toArray⟩,.slice p1 o.keys.length c1,.slice p2 o.kids.length c2]] w fun e w' => e = .returned (.bool (keysB o)) ∧ Below w.heap.size w w':=by
 rcases h with hk | hk
 ·
   have HC:=Lh (show keysB o = false by unfold keysB;rw [if_neg (by omega),if_neg (by omega)];simp [hl])
   rw [hk]
   clear hk
   have hl' : ((o.keys.length : Int) != (o.kids.length : Int)) = true:=by simp;omega
   have hl2 : ¬ o.keys.length = o.kids.length:=hl
   obtain ⟨n1,hn1⟩ : ∃ n,o.keys.length = n:=⟨_,rfl⟩
   obtain ⟨n2,hn2⟩ : ∃ n,o.kids.length = n:=⟨_,rfl⟩
   rw [hn1,hn2] at hl' hl2
   rw [hn1,hn2]
   clear hn1 hn2 hl
   go_enter Tryz.func112,Tryz.ntmps112
   go_wp2
   go_ret
   exact ⟨ret_bool HC.out.symm,bel⟩
 ·
   have HC:=Lh (show keysB o = false by unfold keysB;rw [if_neg (by omega),if_neg (by omega)];simp [hl])
   rw [hk]
   clear hk
   have hl' : ((o.keys.length : Int) != (o.kids.length : Int)) = true:=by simp;omega
   have hl2 : ¬ o.keys.length = o.kids.length:=hl
   obtain ⟨n1,hn1⟩ : ∃ n,o.keys.length = n:=⟨_,rfl⟩
   obtain ⟨n2,hn2⟩ : ∃ n,o.kids.length = n:=⟨_,rfl⟩
   rw [hn1,hn2] at hl' hl2
   rw [hn1,hn2]
   clear hn1 hn2 hl
   go_enter Tryz.func112,Tryz.ntmps112
   go_wp2
   go_ret
   exact ⟨ret_bool HC.out.symm,bel⟩
theorem vkeys_nil (o : Ob) (p1 p2 : Option Addr) (c1 c2 : Nat) (w : World) (h : o.kind = 7 ∨ o.kind = 9) (h1 : o.keys.length = 0) (h2 : o.kids.length = 0) :
   Calls Tryz.prog 112 #[.agg #[.int .i64 o.kind,.int .i64 o.n,.int .i64 o.g,.string ⟨o.s.toArray⟩,.slice p1 o.keys.length c1,.slice p2 o.kids.length c2]] w fun e w' => e = .returned (.bool (keysB o)) ∧ Below w.heap.size w w':=by
 rcases h with hk | hk
 ·
   have HC:=Lh (show keysB o = true by unfold keysB;rw [if_neg (by omega),if_neg (by omega),h1,h2];simp)
   rw [hk]
   clear hk
   rw [h1,h2]
   clear h1 h2
   go_enter Tryz.func112,Tryz.ntmps112
   go_wp2
   refine wp_loop_rounds 1 ?_
   rw [rounds_succ]
   go_wp2
   go_ret
   exact ⟨ret_bool HC.out.symm,bel⟩
 ·
   have HC:=Lh (show keysB o = true by unfold keysB;rw [if_neg (by omega),if_neg (by omega),h1,h2];simp)
   rw [hk]
   clear hk
   rw [h1,h2]
   clear h1 h2
   go_enter Tryz.func112,Tryz.ntmps112
   go_wp2
   refine wp_loop_rounds 1 ?_
   rw [rounds_succ]
   go_wp2
   go_ret
   exact ⟨ret_bool HC.out.symm,bel⟩
theorem vkeys_in (S : Nat → Prop) (d : Nat) (o : Ob) (kv dv : Value) (w : World) (hK : KeysAt S w kv o.keys) (hR : RowAt S d w dv o.kids)
   (hS : ∀ b,S b → b < w.heap.size) (hle : o.keys.length ≤ 140737488355328) (hx : ∀ x ∈ o.keys,x.length ≤ 140737488355328) (h79 : o.kind = 7 ∨ o.kind = 9) :
   Calls Tryz.prog 112 #[.agg #[.int .i64 o.kind,.int .i64 o.n,.int .i64 o.g,.string ⟨o.s.toArray⟩,kv,dv]] w fun e w' => e = .returned (.bool (keysB o)) ∧ Below w.heap.size w w':=by
 have a1 : ∃ p c,kv = .slice p o.keys.length c:=by
   rcases hK with ⟨e,p,c,h⟩ | ⟨b,o,c,h,_⟩
   · exact ⟨_,_,by rw [e];exact h⟩
   · exact ⟨_,_,h⟩
 have a2 : ∃ p c,dv = .slice p o.kids.length c:=by
   rcases hR with ⟨e,p,c,h⟩ | ⟨b,o,c,h,_⟩
   · exact ⟨_,_,by rw [e];exact h⟩
   · exact ⟨_,_,h⟩
 by_cases hl : o.keys.length = o.kids.length
 · by_cases h0 : o.keys.length = 0
   · obtain ⟨p1,c1,rfl⟩:=a1
     obtain ⟨p2,c2,rfl⟩:=a2
     exact vkeys_nil o p1 p2 c1 c2 w h79 h0 (by omega)
   · have hK':=hK
     have hR':=hR
     rcases hK with ⟨e,_⟩ | ⟨b1,f1,c1,rfl,_⟩
     · rw [e] at h0;exact absurd rfl h0
     · rcases hR with ⟨e,_⟩ | ⟨b2,f2,c2,rfl,_⟩
       · rw [e] at hl;simp at hl;simp [hl] at h0
       · rcases h79 with h | h
         · exact vkeys_dict S d o b1 f1 c1 b2 f2 c2 w hK' hR' hS h hl hle hx
         · exact vkeys_stream S d o b1 f1 c1 b2 f2 c2 w hK' hR' hS h hl hle hx
 · obtain ⟨p1,c1,rfl⟩:=a1
   obtain ⟨p2,c2,rfl⟩:=a2
   exact vkeys_dif o p1 p2 c1 c2 w h79 hl
theorem fits_eq (o : Ob) : fitsV o.kind o.n o.g = fitsB o:=rfl
theorem longB_le (k : Int) : longB k ≤ 1048576:=by unfold longB;split <;> (try split) <;> omega
theorem firstBad_snoc {l : List Int} {x : Int} (h : ∀ y ∈ l,y = 0) (hx : x ≠ 0) (r : List Int) : firstBad (l ++ x :: r) = x:=by
 unfold firstBad
 rw [List.find?_append,List.find?_eq_none.2 (fun y hy => by simp [h y hy])]
 simp [hx]
def VEnd (k : Int) (e : Ending) : Prop:=(k = 0 ∧ e = .returned (.tuple #[])) ∨ (k ≠ 0 ∧ e = (.panicked [{ v:=.iface 167 (.agg #[.int .i64 k]),recovered:=false }]))
theorem VEnd.bad {k : Int} (h : k ≠ 0) : VEnd k (.panicked [{ v:=.iface 167 (.agg #[.int .i64 k]),recovered:=false }]):=.inr ⟨h,rfl⟩
theorem VEnd.good : VEnd 0 (.returned (.tuple #[])):=.inl ⟨rfl,rfl⟩
def VCheck (S : Nat → Prop) (n : Nat) : Prop:=∀ (d : Nat) (w : World) (cs : List Value) (o : Ob),ObjAt S d w cs o → smallO d o → (∀ b,S b → b < w.heap.size) →
 Calls Tryz.prog 65 #[.agg cs.toArray,.int .i64 (25 - (n : Int))] w fun e w' => VEnd (checkB n o) e ∧ Below w.heap.size w w'
theorem vcheck_zero (S : Nat → Prop) : VCheck S 0:=by
 intro d w cs o h _ _
 obtain ⟨p1,c1,p2,c2,rfl⟩:=h.form2
 unfold objCells
 go_enter Tryz.func65,Tryz.ntmps65
 go_wp2_with (go_at_call 107;refine (vmust_no _ _).mono ?_;rintro e w9 ⟨rfl,h9⟩;obtain rfl:=h9.symm)
 exact ⟨rfl,VEnd.bad (by unfold checkB;decide),bel⟩
def usesP (o : Ob) : Bool:=let u:=usedV o.kind
 u.2.2.2.2.2 && (u.1 || o.n == 0) && (u.2.1 || o.g == 0) && (u.2.2.1 || o.s.isEmpty) && (u.2.2.2.1 || o.keys.isEmpty) && (u.2.2.2.2.1 || o.kids.isEmpty)
theorem usesP_eq (o : Ob) : usesP o = usesB o:=by
 unfold usesP usesB zeroB usedV
 by_cases h0 : o.kind = 0
 · simp [h0,Bool.and_assoc]
 by_cases h1 : o.kind = 1 ∨ o.kind = 2 ∨ o.kind = 3
 · simp [h0,h1,Bool.and_assoc]
 by_cases h4 : o.kind = 4 ∨ o.kind = 5
 · simp [h0,h1,h4,Bool.and_assoc]
 by_cases h6 : o.kind = 6
 · simp [h6,Bool.and_assoc]
 by_cases h7 : o.kind = 7
 · simp [h7,Bool.and_assoc]
 by_cases h8 : o.kind = 8
 · simp [h8,Bool.and_assoc]
 by_cases h9 : o.kind = 9
 · simp [h9,Bool.and_assoc]
 · simp [h0,h1,h4,h6,h7,h8,h9]
theorem short_eq (o : Ob) (h : usesB o = true) : shortV o.kind o.s.length = !decide (longB o.kind < o.s.length):=by
 rw [← usesP_eq] at h
 unfold usesP usedV at h
 unfold shortV longB
 by_cases h4 : o.kind = 4
 · simp [h4];rw [Bool.eq_iff_iff];simp
 by_cases h5 : o.kind = 5
 · simp [h5];rw [Bool.eq_iff_iff];simp
 by_cases h9 : o.kind = 9
 · simp [h9];rw [Bool.eq_iff_iff];simp
 have he : o.s = []:=by
   by_cases h0 : o.kind = 0
   · simp [h0] at h;exact h.1.1.2
   by_cases h1 : o.kind = 1 ∨ o.kind = 2 ∨ o.kind = 3
   · simp [h0,h1] at h;exact h.1.1.2
   by_cases h6 : o.kind = 6
   · simp [h6] at h;exact h.1.2
   by_cases h7 : o.kind = 7
   · simp [h7] at h;exact h.2
   by_cases h8 : o.kind = 8
   · simp [h8] at h;exact h.1.1
   · simp [h0,h1,h4,h5,h6,h7,h8,h9] at h
 simp [h4,h5,h9,he]
theorem chk_world {w w1 : World} {v0 v1 v2 v3 v4 v5 u0 u1 u2 u3 u4 : Value} {t t2 : TypeId} (hb1 : Below (w.alloc (.cells #[v0, v1, v2, v3, v4, v5] t)).heap.size (w.alloc (.cells #[v0, v1, v2, v3, v4, v5] t)) w1) :
   ∃ W3 B4,w1.alloc (.cells #[u0,u1,u2,u3,u4] t2) = W3 ∧ w1.heap.size = B4 ∧ w.heap.size < B4 ∧ B4 < W3.heap.size ∧ Below w.heap.size w W3 ∧
     W3.cell? ⟨w.heap.size,0,none⟩ = some v0 ∧ W3.cell? ⟨w.heap.size,1,none⟩ = some v1 ∧ W3.cell? ⟨w.heap.size,2,none⟩ = some v2 ∧ W3.cell? ⟨w.heap.size,3,none⟩ = some v3 ∧ W3.cell? ⟨w.heap.size,4,none⟩ = some v4 ∧ W3.cell? ⟨w.heap.size,5,none⟩ = some v5 ∧
     W3.cell? ⟨B4,0,none⟩ = some u0 ∧ W3.cell? ⟨B4,1,none⟩ = some u1 ∧ W3.cell? ⟨B4,2,none⟩ = some u2 ∧ W3.cell? ⟨B4,3,none⟩ = some u3 ∧ W3.cell? ⟨B4,4,none⟩ = some u4:=by
 have hz:=hb1.size
 simp at hz
 have k : ∀ o,(w1.alloc (.cells #[u0,u1,u2,u3,u4] t2)).cell? ⟨w.heap.size,o,none⟩ = (w.alloc (.cells #[v0,v1,v2,v3,v4,v5] t)).cell? ⟨w.heap.size,o,none⟩:=fun o =>
   (World.cell?_of_block (a:=⟨w.heap.size,o,none⟩) (Below.heap_alloc _ _ _ (show w.heap.size < w1.heap.size by omega))).trans (World.cell?_of_block (a:=⟨w.heap.size,o,none⟩) (hb1.block _ (by simp)))
 refine ⟨_,_,rfl,rfl,by omega,by simp,?_,?_⟩
 · exact ((show Below w.heap.size w (w.alloc _) from (Below.refl _ _).alloc (Nat.le_refl _) _).trans (hb1.mono (by simp))).alloc (by omega) _
 · refine ⟨?_,?_,?_,?_,?_,?_,?_,?_,?_,?_,?_⟩
   all_goals first | (rw [k];simp [World.cell?_alloc_at];done) | (simp [World.cell?_alloc_at];done)
theorem empty_no {s : L} (h : ¬ s = []) : s.isEmpty = false:=by
 cases s with
 | nil => exact absurd rfl h
 | cons => rfl
theorem empty_no2 {s : L} (h : ¬ s = []) : (s == []) = false:=by simpa using h
theorem used_no {K : Int} {a b c d e f : Bool} (h : usedV K = (a,b,c,d,e,f)) (h0 : ¬ K = 0) (h1 : ¬ K = 1) (h2 : ¬ K = 2) (h3 : ¬ K = 3) (h4 : ¬ K = 4) (h5 : ¬ K = 5) (h6 : ¬ K = 6) (h7 : ¬ K = 7) (h8 : ¬ K = 8) (h9 : ¬ K = 9) : f = false:=by
 unfold usedV at h
 rw [if_neg h0,if_neg (by simp [h1,h2,h3]),if_neg (by simp [h4,h5]),if_neg h6,if_neg h7,if_neg h8,if_neg h9] at h
 simp only [Prod.mk.injEq] at h
 exact h.2.2.2.2.2.symm
theorem used_keys {K : Int} {a b c d e f : Bool} (h : usedV K = (a,b,c,d,e,f)) : d = decide (K = 7 ∨ K = 9):=by
 unfold usedV at h
 by_cases h0 : K = 0
 · subst h0;simp at h;simp [← h.2.2.2.1]
 by_cases h1 : K = 1 ∨ K = 2 ∨ K = 3
 · rw [if_neg h0,if_pos h1] at h;simp only [Prod.mk.injEq] at h;rw [← h.2.2.2.1];symm;rw [decide_eq_false_iff_not];omega
 by_cases h4 : K = 4 ∨ K = 5
 · rw [if_neg h0,if_neg h1,if_pos h4] at h;simp only [Prod.mk.injEq] at h;rw [← h.2.2.2.1];symm;rw [decide_eq_false_iff_not];omega
 by_cases h6 : K = 6
 · subst h6;simp at h;simp [← h.2.2.2.1]
 by_cases h7 : K = 7
 · subst h7;simp at h;simp [← h.2.2.2.1]
 by_cases h8 : K = 8
 · subst h8;simp at h;simp [← h.2.2.2.1]
 by_cases h9 : K = 9
 · subst h9;simp at h;simp [← h.2.2.2.1]
 · rw [if_neg h0,if_neg h1,if_neg h4,if_neg h6,if_neg h7,if_neg h8,if_neg h9] at h
   simp only [Prod.mk.injEq] at h
   rw [← h.2.2.2.1];symm;rw [decide_eq_false_iff_not];omega
theorem chk_keep {w W W' : World} {B4 : Nat} {a0 a1 a2 a3 a4 a5 a6 : Value} (hl1 : w.heap.size < B4) (hl2 : B4 < W.heap.size) (hW : Below w.heap.size w W) (hb : Below W.heap.size W W')
   (q0 : W.cell? ⟨w.heap.size,0,none⟩ = some a0) (q1 : W.cell? ⟨w.heap.size,1,none⟩ = some a1) (q2 : W.cell? ⟨w.heap.size,2,none⟩ = some a2) (q3 : W.cell? ⟨w.heap.size,3,none⟩ = some a3) (q4 : W.cell? ⟨w.heap.size,4,none⟩ = some a4) (q5 : W.cell? ⟨w.heap.size,5,none⟩ = some a5) (v3 : W.cell? ⟨B4,3,none⟩ = some a6) :
   B4 < W'.heap.size ∧ Below w.heap.size w W' ∧ W'.cell? ⟨w.heap.size,0,none⟩ = some a0 ∧ W'.cell? ⟨w.heap.size,1,none⟩ = some a1 ∧ W'.cell? ⟨w.heap.size,2,none⟩ = some a2 ∧ W'.cell? ⟨w.heap.size,3,none⟩ = some a3 ∧ W'.cell? ⟨w.heap.size,4,none⟩ = some a4 ∧ W'.cell? ⟨w.heap.size,5,none⟩ = some a5 ∧ W'.cell? ⟨B4,3,none⟩ = some a6:=by
 have hz:=hb.size
 have k : ∀ b o,b < W.heap.size → W'.cell? ⟨b,o,none⟩ = W.cell? ⟨b,o,none⟩:=fun b o h => World.cell?_of_block (a:=⟨b,o,none⟩) (hb.block b h)
 exact ⟨by omega,hW.trans (hb.mono hW.size),(k _ _ (by omega)).trans q0,(k _ _ (by omega)).trans q1,(k _ _ (by omega)).trans q2,(k _ _ (by omega)).trans q3,(k _ _ (by omega)).trans q4,(k _ _ (by omega)).trans q5,(k _ _ hl2).trans v3⟩
theorem vcheck_step (S : Nat → Prop) (n : Nat) (hn : n < 24) (IH : VCheck S n) : VCheck S (n + 1):=by
 intro d w cs o hO hsm hS
 cases d with
 | zero => exact hO.elim
 | succ d =>
 obtain ⟨kv,dv,rfl,hK,hR0⟩:=hO
 have hR : RowAt S d w dv o.kids:=hR0
 clear hR0
 obtain ⟨m1,m2,m3,m4,m5⟩:=hsm
 have a1 : ∃ p c,kv = .slice p o.keys.length c:=by
   rcases hK with ⟨e,p,c,h⟩ | ⟨b,o,c,h,_⟩
   · exact ⟨_,_,by rw [e];exact h⟩
   · exact ⟨_,_,h⟩
 have a2 : ∃ p c,dv = .slice p o.kids.length c:=by
   rcases hR with ⟨e,p,c,h⟩ | ⟨b,o,c,h,_⟩
   · exact ⟨_,_,by rw [e];exact h⟩
   · exact ⟨_,_,h⟩
 obtain ⟨p1,c1,rfl⟩:=a1
 obtain ⟨p2,c2,rfl⟩:=a2
 have HFI:=Lh (fun W => vfits_in o.kind o.n o.g o.s p1 p2 o.keys.length c1 o.kids.length c2 W)
 rw [fits_eq] at HFI
 have HLO:=Lh (fun W => vshort_in o.kind o.n o.g o.s p1 p2 o.keys.length c1 o.kids.length c2 W)
 have HKN:=Lh (fun W => vkey_in o.s m3 W)
 have HKE:=Lh (fun W (hW : Below w.heap.size w W) h79 => vkeys_in S d o _ _ W (hK.kept (fun b h => hW.block b (hS b h))) (hR.kept (fun b h => hW.block b (hS b h))) (fun b h => Nat.lt_of_lt_of_le (hS b h) hW.size) m1 m4 h79)
 have HRW:=Lh (And.intro hR (And.intro m5 hS))
 obtain ⟨C,hC⟩ : ∃ C,checkB (n + 1) o = C:=⟨_,rfl⟩
 rw [hC]
 unfold checkB at hC
 have HSH:=Lh (short_eq o)
 have HUP:=Lh (usesP_eq o)
 obtain ⟨D,hD⟩ : ∃ D : Int,25 - ((n + 1 : Nat) : Int) = D:=⟨_,rfl⟩
 rw [hD]
 have hD1 : 1 ≤ D:=by omega
 have hD2 : D ≤ 24:=by omega
 have hDn : D + 1 = 25 - (n : Int):=by omega
 have hn23 : (n != 23) = !(D == 1):=by
   rw [Bool.eq_iff_iff];simp;omega
 rw [hn23] at hC
 have hNo : usesB o = false ∨ (D == 1 || o.kind != 9) = false → VEnd C (.panicked [{ v:=.iface 167 (.agg #[.int .i64 10]),recovered:=false }]):=by
   intro h
   have : C = 10:=by
     rw [← hC,if_pos]
     rcases h with h | h
     · simp [h]
     · simp at h;simp [h]
   rw [this];exact VEnd.bad (by decide)
 have hYes : usesB o = true → (D == 1 || o.kind != 9) = true → (if !fitsB o then 2 else if longB o.kind < o.s.length then 5 else if 8191 < o.kids.length then 6 else if !keysB o then 3 else firstBad (o.kids.map (checkB n))) = C:=by
   intro h1 h2
   have e : (!usesB o || o.kind == 9 && !(D == 1)) = false:=by
     rw [h1]
     cases h3 : (D == 1)
     · rw [h3] at h2;simp at h2 ⊢;exact h2
     · simp
   have hC2:=hC
   rw [e,if_neg (by decide)] at hC2
   exact hC2
 clear hC hn23 hD
 unfold usesP at HUP
 obtain ⟨K,hk0⟩ : ∃ K,o.kind = K:=⟨_,rfl⟩
 obtain ⟨nk,hnk⟩ : ∃ nk,o.kids.length = nk:=⟨_,rfl⟩
 obtain ⟨n2,hn2⟩ : ∃ n2,o.keys.length = n2:=⟨_,rfl⟩
 obtain ⟨N,hN0⟩ : ∃ N,o.n = N:=⟨_,rfl⟩
 obtain ⟨G,hG0⟩ : ∃ G,o.g = G:=⟨_,rfl⟩
 obtain ⟨s,hs0⟩ : ∃ s,o.s = s:=⟨_,rfl⟩
 have ke : o.keys.isEmpty = ((n2 : Int) == 0):=by rw [← hn2];cases o.keys <;> simp;omega
 have de : o.kids.isEmpty = ((nk : Int) == 0):=by rw [← hnk];cases o.kids <;> simp;omega
 have HUS:=Lh (fun W => used_in K W)
 obtain ⟨⟨un,ug,us,uk,ud,ok⟩,hT⟩ : ∃ u,usedV K = u:=⟨_,rfl⟩
 unfold objCells
 rw [ke,de,hk0,hN0,hG0,hs0,hT] at HUP
 rw [hk0,hN0,hG0,hs0,hn2,hnk]
 rw [hk0] at hNo hYes
 have hSN:=HSH.out
 rw [hk0,hs0] at hSN
 rw [hk0,hN0,hG0,hs0,hn2,hnk] at HFI HLO HKE
 rw [hs0] at HKN hYes
 rw [hnk] at hYes m2
 rw [hT] at HUS
 have HNo:=Lh (fun (h : (ok && (un || N == 0) && (ug || G == 0) && (us || s.isEmpty) && (uk || (n2 : Int) == 0) && (ud || (nk : Int) == 0) && (D == 1 || K != 9)) = false) => hNo ((Bool.and_eq_false_iff.1 h).imp_left (fun h => HUP.out.symm.trans h)))
 have HYes:=Lh (fun (h : (ok && (un || N == 0) && (ug || G == 0) && (us || s.isEmpty) && (uk || (n2 : Int) == 0) && (ud || (nk : Int) == 0) && (D == 1 || K != 9)) = true) => And.intro (HUP.out.symm.trans (Bool.and_eq_true_iff.1 h).1) (hYes (HUP.out.symm.trans (Bool.and_eq_true_iff.1 h).1) (Bool.and_eq_true_iff.1 h).2))
 have HT:=Lh hT
 have HSN:=Lh hSN
 have HNK:=Lh (And.intro hnk (And.intro hk0 hs0))
 have HDN:=Lh hDn
 have hLGb : longB K ≤ 1048576:=longB_le K
 have hd24 : decide (D ≤ 24) = true:=by simp;omega
 have hSS : ¬ s = [] ∨ s = []:=(Classical.em _).symm
 clear hT hNo hYes hSN ke de hK hR hS m1 m4 m5 m3 hk0 hnk hN0 hG0 hs0 hn2 hDn HSH HUP
 dsimp only [usedR] at HUS
 go_enter Tryz.func65,Tryz.ntmps65
 go_upto_region 3 with (first | (go_at_call 107;refine (vmust_yes _ _).mono ?_;rintro e w9 ⟨rfl,h9⟩;obtain rfl:=h9.symm) | (go_at_call 108;refine (HUS.out _).mono ?_;rintro e w1 ⟨rfl,hb1⟩;obtain ⟨hc1,hf1⟩:=bcell hb1;have hz1:=hb1.size;simp at hz1))
 obtain ⟨W3,B4,hW3,hB4,hl1,hl2,hBW,q0,q1,q2,q3,q4,q5,v0,v1,v2,v3,v4⟩:=chk_world (u0:=.bool un) (u1:=.bool ug) (u2:=.bool us) (u3:=.bool uk) (u4:=.bool ud) (t2:=169) hb1
 rw [hW3]
 simp only [hB4]
 have HBW:=Lh hBW
 clear hW3 hB4 hc1 hf1 hb1 HUS hz1
 go_cut [] from 11 (fun wc => wc = W3 ∧ Hid (usesB o = true ∧ (if !fitsB o then 2 else if longB K < s.length then 5 else if 8191 < nk then 6 else if !keysB o then 3 else firstBad (o.kids.map (checkB n))) = C))
 case first =>
   clear hBW HFI HLO HKN HKE HRW HSN HNK HDN
   by_cases h0 : K = 0
   · subst h0
     obtain ⟨rfl,rfl,rfl,rfl,rfl,rfl⟩ : un = false ∧ ug = false ∧ us = false ∧ uk = false ∧ ud = false ∧ ok = true:=by have:=HT.out;revert this;cases un <;> cases ug <;> cases us <;> cases uk <;> cases ud <;> cases ok <;> decide
     cases hN : (N == 0)
     · go_wp2_with (go_at_call 107;refine (vmust_no _ _).mono ?_;rintro e w9 ⟨rfl,h9⟩;obtain rfl:=h9.symm)
       exact ⟨rfl,HNo.out (by simp [hN]),HBW.out⟩
     ·
       cases hG : (G == 0)
       · go_wp2_with (go_at_call 107;refine (vmust_no _ _).mono ?_;rintro e w9 ⟨rfl,h9⟩;obtain rfl:=h9.symm)
         exact ⟨rfl,HNo.out (by simp [hN,hG]),HBW.out⟩
       ·
         rcases hSS with hs1 | hs1
         · have hS:=empty_no hs1
           have hs2:=empty_no2 hs1
           go_wp2_with (go_at_call 107;refine (vmust_no _ _).mono ?_;rintro e w9 ⟨rfl,h9⟩;obtain rfl:=h9.symm)
           exact ⟨rfl,HNo.out (by simp [hN,hG,hS]),HBW.out⟩
         · subst hs1
           cases hK : ((n2 : Int) == 0)
           · go_wp2_with (go_at_call 107;refine (vmust_no _ _).mono ?_;rintro e w9 ⟨rfl,h9⟩;obtain rfl:=h9.symm)
             exact ⟨rfl,HNo.out (by simp [hN,hG,hK]),HBW.out⟩
           ·
             cases hD : ((nk : Int) == 0)
             · go_wp2_with (go_at_call 107;refine (vmust_no _ _).mono ?_;rintro e w9 ⟨rfl,h9⟩;obtain rfl:=h9.symm)
               exact ⟨rfl,HNo.out (by simp [hN,hG,hK,hD]),HBW.out⟩
             ·
               cases hd1 : (D == 1)
               · go_wp2_with (go_at_call 107;refine (vmust_yes _ _).mono ?_;rintro e w9 ⟨rfl,h9⟩;obtain rfl:=h9.symm)
                 go_meet
                 exact ⟨rfl,HYes.out (by simp [hN,hG,hK,hD])⟩
               · go_wp2_with (go_at_call 107;refine (vmust_yes _ _).mono ?_;rintro e w9 ⟨rfl,h9⟩;obtain rfl:=h9.symm)
                 go_meet
                 exact ⟨rfl,HYes.out (by simp [hN,hG,hK,hD])⟩
   by_cases h1 : K = 1
   · subst h1
     obtain ⟨rfl,rfl,rfl,rfl,rfl,rfl⟩ : un = true ∧ ug = false ∧ us = false ∧ uk = false ∧ ud = false ∧ ok = true:=by have:=HT.out;revert this;cases un <;> cases ug <;> cases us <;> cases uk <;> cases ud <;> cases ok <;> decide
     cases hG : (G == 0)
     · go_wp2_with (go_at_call 107;refine (vmust_no _ _).mono ?_;rintro e w9 ⟨rfl,h9⟩;obtain rfl:=h9.symm)
       exact ⟨rfl,HNo.out (by simp [hG]),HBW.out⟩
     ·
       rcases hSS with hs1 | hs1
       · have hS:=empty_no hs1
         have hs2:=empty_no2 hs1
         go_wp2_with (go_at_call 107;refine (vmust_no _ _).mono ?_;rintro e w9 ⟨rfl,h9⟩;obtain rfl:=h9.symm)
         exact ⟨rfl,HNo.out (by simp [hG,hS]),HBW.out⟩
       · subst hs1
         cases hK : ((n2 : Int) == 0)
         · go_wp2_with (go_at_call 107;refine (vmust_no _ _).mono ?_;rintro e w9 ⟨rfl,h9⟩;obtain rfl:=h9.symm)
           exact ⟨rfl,HNo.out (by simp [hG,hK]),HBW.out⟩
         ·
           cases hD : ((nk : Int) == 0)
           · go_wp2_with (go_at_call 107;refine (vmust_no _ _).mono ?_;rintro e w9 ⟨rfl,h9⟩;obtain rfl:=h9.symm)
             exact ⟨rfl,HNo.out (by simp [hG,hK,hD]),HBW.out⟩
           ·
             cases hd1 : (D == 1)
             · go_wp2_with (go_at_call 107;refine (vmust_yes _ _).mono ?_;rintro e w9 ⟨rfl,h9⟩;obtain rfl:=h9.symm)
               go_meet
               exact ⟨rfl,HYes.out (by simp [hG,hK,hD])⟩
             · go_wp2_with (go_at_call 107;refine (vmust_yes _ _).mono ?_;rintro e w9 ⟨rfl,h9⟩;obtain rfl:=h9.symm)
               go_meet
               exact ⟨rfl,HYes.out (by simp [hG,hK,hD])⟩
   by_cases h2 : K = 2
   · subst h2
     obtain ⟨rfl,rfl,rfl,rfl,rfl,rfl⟩ : un = true ∧ ug = false ∧ us = false ∧ uk = false ∧ ud = false ∧ ok = true:=by have:=HT.out;revert this;cases un <;> cases ug <;> cases us <;> cases uk <;> cases ud <;> cases ok <;> decide
     cases hG : (G == 0)
     · go_wp2_with (go_at_call 107;refine (vmust_no _ _).mono ?_;rintro e w9 ⟨rfl,h9⟩;obtain rfl:=h9.symm)
       exact ⟨rfl,HNo.out (by simp [hG]),HBW.out⟩
     ·
       rcases hSS with hs1 | hs1
       · have hS:=empty_no hs1
         have hs2:=empty_no2 hs1
         go_wp2_with (go_at_call 107;refine (vmust_no _ _).mono ?_;rintro e w9 ⟨rfl,h9⟩;obtain rfl:=h9.symm)
         exact ⟨rfl,HNo.out (by simp [hG,hS]),HBW.out⟩
       · subst hs1
         cases hK : ((n2 : Int) == 0)
         · go_wp2_with (go_at_call 107;refine (vmust_no _ _).mono ?_;rintro e w9 ⟨rfl,h9⟩;obtain rfl:=h9.symm)
           exact ⟨rfl,HNo.out (by simp [hG,hK]),HBW.out⟩
         ·
           cases hD : ((nk : Int) == 0)
           · go_wp2_with (go_at_call 107;refine (vmust_no _ _).mono ?_;rintro e w9 ⟨rfl,h9⟩;obtain rfl:=h9.symm)
             exact ⟨rfl,HNo.out (by simp [hG,hK,hD]),HBW.out⟩
           ·
             cases hd1 : (D == 1)
             · go_wp2_with (go_at_call 107;refine (vmust_yes _ _).mono ?_;rintro e w9 ⟨rfl,h9⟩;obtain rfl:=h9.symm)
               go_meet
               exact ⟨rfl,HYes.out (by simp [hG,hK,hD])⟩
             · go_wp2_with (go_at_call 107;refine (vmust_yes _ _).mono ?_;rintro e w9 ⟨rfl,h9⟩;obtain rfl:=h9.symm)
               go_meet
               exact ⟨rfl,HYes.out (by simp [hG,hK,hD])⟩
   by_cases h3 : K = 3
   · subst h3
     obtain ⟨rfl,rfl,rfl,rfl,rfl,rfl⟩ : un = true ∧ ug = false ∧ us = false ∧ uk = false ∧ ud = false ∧ ok = true:=by have:=HT.out;revert this;cases un <;> cases ug <;> cases us <;> cases uk <;> cases ud <;> cases ok <;> decide
     cases hG : (G == 0)
     · go_wp2_with (go_at_call 107;refine (vmust_no _ _).mono ?_;rintro e w9 ⟨rfl,h9⟩;obtain rfl:=h9.symm)
       exact ⟨rfl,HNo.out (by simp [hG]),HBW.out⟩
     ·
       rcases hSS with hs1 | hs1
       · have hS:=empty_no hs1
         have hs2:=empty_no2 hs1
         go_wp2_with (go_at_call 107;refine (vmust_no _ _).mono ?_;rintro e w9 ⟨rfl,h9⟩;obtain rfl:=h9.symm)
         exact ⟨rfl,HNo.out (by simp [hG,hS]),HBW.out⟩
       · subst hs1
         cases hK : ((n2 : Int) == 0)
         · go_wp2_with (go_at_call 107;refine (vmust_no _ _).mono ?_;rintro e w9 ⟨rfl,h9⟩;obtain rfl:=h9.symm)
           exact ⟨rfl,HNo.out (by simp [hG,hK]),HBW.out⟩
         ·
           cases hD : ((nk : Int) == 0)
           · go_wp2_with (go_at_call 107;refine (vmust_no _ _).mono ?_;rintro e w9 ⟨rfl,h9⟩;obtain rfl:=h9.symm)
             exact ⟨rfl,HNo.out (by simp [hG,hK,hD]),HBW.out⟩
           ·
             cases hd1 : (D == 1)
             · go_wp2_with (go_at_call 107;refine (vmust_yes _ _).mono ?_;rintro e w9 ⟨rfl,h9⟩;obtain rfl:=h9.symm)
               go_meet
               exact ⟨rfl,HYes.out (by simp [hG,hK,hD])⟩
             · go_wp2_with (go_at_call 107;refine (vmust_yes _ _).mono ?_;rintro e w9 ⟨rfl,h9⟩;obtain rfl:=h9.symm)
               go_meet
               exact ⟨rfl,HYes.out (by simp [hG,hK,hD])⟩
   by_cases h4 : K = 4
   · subst h4
     obtain ⟨rfl,rfl,rfl,rfl,rfl,rfl⟩ : un = false ∧ ug = false ∧ us = true ∧ uk = false ∧ ud = false ∧ ok = true:=by have:=HT.out;revert this;cases un <;> cases ug <;> cases us <;> cases uk <;> cases ud <;> cases ok <;> decide
     cases hN : (N == 0)
     · go_wp2_with (go_at_call 107;refine (vmust_no _ _).mono ?_;rintro e w9 ⟨rfl,h9⟩;obtain rfl:=h9.symm)
       exact ⟨rfl,HNo.out (by simp [hN]),HBW.out⟩
     ·
       cases hG : (G == 0)
       · go_wp2_with (go_at_call 107;refine (vmust_no _ _).mono ?_;rintro e w9 ⟨rfl,h9⟩;obtain rfl:=h9.symm)
         exact ⟨rfl,HNo.out (by simp [hN,hG]),HBW.out⟩
       ·
         cases hK : ((n2 : Int) == 0)
         · go_wp2_with (go_at_call 107;refine (vmust_no _ _).mono ?_;rintro e w9 ⟨rfl,h9⟩;obtain rfl:=h9.symm)
           exact ⟨rfl,HNo.out (by simp [hN,hG,hK]),HBW.out⟩
         ·
           cases hD : ((nk : Int) == 0)
           · go_wp2_with (go_at_call 107;refine (vmust_no _ _).mono ?_;rintro e w9 ⟨rfl,h9⟩;obtain rfl:=h9.symm)
             exact ⟨rfl,HNo.out (by simp [hN,hG,hK,hD]),HBW.out⟩
           ·
             cases hd1 : (D == 1)
             · go_wp2_with (go_at_call 107;refine (vmust_yes _ _).mono ?_;rintro e w9 ⟨rfl,h9⟩;obtain rfl:=h9.symm)
               go_meet
               exact ⟨rfl,HYes.out (by simp [hN,hG,hK,hD])⟩
             · go_wp2_with (go_at_call 107;refine (vmust_yes _ _).mono ?_;rintro e w9 ⟨rfl,h9⟩;obtain rfl:=h9.symm)
               go_meet
               exact ⟨rfl,HYes.out (by simp [hN,hG,hK,hD])⟩
   by_cases h5 : K = 5
   · subst h5
     obtain ⟨rfl,rfl,rfl,rfl,rfl,rfl⟩ : un = false ∧ ug = false ∧ us = true ∧ uk = false ∧ ud = false ∧ ok = true:=by have:=HT.out;revert this;cases un <;> cases ug <;> cases us <;> cases uk <;> cases ud <;> cases ok <;> decide
     cases hN : (N == 0)
     · go_wp2_with (go_at_call 107;refine (vmust_no _ _).mono ?_;rintro e w9 ⟨rfl,h9⟩;obtain rfl:=h9.symm)
       exact ⟨rfl,HNo.out (by simp [hN]),HBW.out⟩
     ·
       cases hG : (G == 0)
       · go_wp2_with (go_at_call 107;refine (vmust_no _ _).mono ?_;rintro e w9 ⟨rfl,h9⟩;obtain rfl:=h9.symm)
         exact ⟨rfl,HNo.out (by simp [hN,hG]),HBW.out⟩
       ·
         cases hK : ((n2 : Int) == 0)
         · go_wp2_with (go_at_call 107;refine (vmust_no _ _).mono ?_;rintro e w9 ⟨rfl,h9⟩;obtain rfl:=h9.symm)
           exact ⟨rfl,HNo.out (by simp [hN,hG,hK]),HBW.out⟩
         ·
           cases hD : ((nk : Int) == 0)
           · go_wp2_with (go_at_call 107;refine (vmust_no _ _).mono ?_;rintro e w9 ⟨rfl,h9⟩;obtain rfl:=h9.symm)
             exact ⟨rfl,HNo.out (by simp [hN,hG,hK,hD]),HBW.out⟩
           ·
             cases hd1 : (D == 1)
             · go_wp2_with (go_at_call 107;refine (vmust_yes _ _).mono ?_;rintro e w9 ⟨rfl,h9⟩;obtain rfl:=h9.symm)
               go_meet
               exact ⟨rfl,HYes.out (by simp [hN,hG,hK,hD])⟩
             · go_wp2_with (go_at_call 107;refine (vmust_yes _ _).mono ?_;rintro e w9 ⟨rfl,h9⟩;obtain rfl:=h9.symm)
               go_meet
               exact ⟨rfl,HYes.out (by simp [hN,hG,hK,hD])⟩
   by_cases h6 : K = 6
   · subst h6
     obtain ⟨rfl,rfl,rfl,rfl,rfl,rfl⟩ : un = false ∧ ug = false ∧ us = false ∧ uk = false ∧ ud = true ∧ ok = true:=by have:=HT.out;revert this;cases un <;> cases ug <;> cases us <;> cases uk <;> cases ud <;> cases ok <;> decide
     cases hN : (N == 0)
     · go_wp2_with (go_at_call 107;refine (vmust_no _ _).mono ?_;rintro e w9 ⟨rfl,h9⟩;obtain rfl:=h9.symm)
       exact ⟨rfl,HNo.out (by simp [hN]),HBW.out⟩
     ·
       cases hG : (G == 0)
       · go_wp2_with (go_at_call 107;refine (vmust_no _ _).mono ?_;rintro e w9 ⟨rfl,h9⟩;obtain rfl:=h9.symm)
         exact ⟨rfl,HNo.out (by simp [hN,hG]),HBW.out⟩
       ·
         rcases hSS with hs1 | hs1
         · have hS:=empty_no hs1
           have hs2:=empty_no2 hs1
           go_wp2_with (go_at_call 107;refine (vmust_no _ _).mono ?_;rintro e w9 ⟨rfl,h9⟩;obtain rfl:=h9.symm)
           exact ⟨rfl,HNo.out (by simp [hN,hG,hS]),HBW.out⟩
         · subst hs1
           cases hK : ((n2 : Int) == 0)
           · go_wp2_with (go_at_call 107;refine (vmust_no _ _).mono ?_;rintro e w9 ⟨rfl,h9⟩;obtain rfl:=h9.symm)
             exact ⟨rfl,HNo.out (by simp [hN,hG,hK]),HBW.out⟩
           ·
             cases hd1 : (D == 1)
             · go_wp2_with (go_at_call 107;refine (vmust_yes _ _).mono ?_;rintro e w9 ⟨rfl,h9⟩;obtain rfl:=h9.symm)
               go_meet
               exact ⟨rfl,HYes.out (by simp [hN,hG,hK])⟩
             · go_wp2_with (go_at_call 107;refine (vmust_yes _ _).mono ?_;rintro e w9 ⟨rfl,h9⟩;obtain rfl:=h9.symm)
               go_meet
               exact ⟨rfl,HYes.out (by simp [hN,hG,hK])⟩
   by_cases h7 : K = 7
   · subst h7
     obtain ⟨rfl,rfl,rfl,rfl,rfl,rfl⟩ : un = false ∧ ug = false ∧ us = false ∧ uk = true ∧ ud = true ∧ ok = true:=by have:=HT.out;revert this;cases un <;> cases ug <;> cases us <;> cases uk <;> cases ud <;> cases ok <;> decide
     cases hN : (N == 0)
     · go_wp2_with (go_at_call 107;refine (vmust_no _ _).mono ?_;rintro e w9 ⟨rfl,h9⟩;obtain rfl:=h9.symm)
       exact ⟨rfl,HNo.out (by simp [hN]),HBW.out⟩
     ·
       cases hG : (G == 0)
       · go_wp2_with (go_at_call 107;refine (vmust_no _ _).mono ?_;rintro e w9 ⟨rfl,h9⟩;obtain rfl:=h9.symm)
         exact ⟨rfl,HNo.out (by simp [hN,hG]),HBW.out⟩
       ·
         rcases hSS with hs1 | hs1
         · have hS:=empty_no hs1
           have hs2:=empty_no2 hs1
           go_wp2_with (go_at_call 107;refine (vmust_no _ _).mono ?_;rintro e w9 ⟨rfl,h9⟩;obtain rfl:=h9.symm)
           exact ⟨rfl,HNo.out (by simp [hN,hG,hS]),HBW.out⟩
         · subst hs1
           cases hd1 : (D == 1)
           · go_wp2_with (go_at_call 107;refine (vmust_yes _ _).mono ?_;rintro e w9 ⟨rfl,h9⟩;obtain rfl:=h9.symm)
             go_meet
             exact ⟨rfl,HYes.out (by simp [hN,hG])⟩
           · go_wp2_with (go_at_call 107;refine (vmust_yes _ _).mono ?_;rintro e w9 ⟨rfl,h9⟩;obtain rfl:=h9.symm)
             go_meet
             exact ⟨rfl,HYes.out (by simp [hN,hG])⟩
   by_cases h8 : K = 8
   · subst h8
     obtain ⟨rfl,rfl,rfl,rfl,rfl,rfl⟩ : un = true ∧ ug = true ∧ us = false ∧ uk = false ∧ ud = false ∧ ok = true:=by have:=HT.out;revert this;cases un <;> cases ug <;> cases us <;> cases uk <;> cases ud <;> cases ok <;> decide
     rcases hSS with hs1 | hs1
     · have hS:=empty_no hs1
       have hs2:=empty_no2 hs1
       go_wp2_with (go_at_call 107;refine (vmust_no _ _).mono ?_;rintro e w9 ⟨rfl,h9⟩;obtain rfl:=h9.symm)
       exact ⟨rfl,HNo.out (by simp [hS]),HBW.out⟩
     · subst hs1
       cases hK : ((n2 : Int) == 0)
       · go_wp2_with (go_at_call 107;refine (vmust_no _ _).mono ?_;rintro e w9 ⟨rfl,h9⟩;obtain rfl:=h9.symm)
         exact ⟨rfl,HNo.out (by simp [hK]),HBW.out⟩
       ·
         cases hD : ((nk : Int) == 0)
         · go_wp2_with (go_at_call 107;refine (vmust_no _ _).mono ?_;rintro e w9 ⟨rfl,h9⟩;obtain rfl:=h9.symm)
           exact ⟨rfl,HNo.out (by simp [hK,hD]),HBW.out⟩
         ·
           cases hd1 : (D == 1)
           · go_wp2_with (go_at_call 107;refine (vmust_yes _ _).mono ?_;rintro e w9 ⟨rfl,h9⟩;obtain rfl:=h9.symm)
             go_meet
             exact ⟨rfl,HYes.out (by simp [hK,hD])⟩
           · go_wp2_with (go_at_call 107;refine (vmust_yes _ _).mono ?_;rintro e w9 ⟨rfl,h9⟩;obtain rfl:=h9.symm)
             go_meet
             exact ⟨rfl,HYes.out (by simp [hK,hD])⟩
   by_cases h9 : K = 9
   · subst h9
     obtain ⟨rfl,rfl,rfl,rfl,rfl,rfl⟩ : un = false ∧ ug = false ∧ us = true ∧ uk = true ∧ ud = true ∧ ok = true:=by have:=HT.out;revert this;cases un <;> cases ug <;> cases us <;> cases uk <;> cases ud <;> cases ok <;> decide
     cases hN : (N == 0)
     · go_wp2_with (go_at_call 107;refine (vmust_no _ _).mono ?_;rintro e w9 ⟨rfl,h9⟩;obtain rfl:=h9.symm)
       exact ⟨rfl,HNo.out (by simp [hN]),HBW.out⟩
     ·
       cases hG : (G == 0)
       · go_wp2_with (go_at_call 107;refine (vmust_no _ _).mono ?_;rintro e w9 ⟨rfl,h9⟩;obtain rfl:=h9.symm)
         exact ⟨rfl,HNo.out (by simp [hN,hG]),HBW.out⟩
       ·
         cases hd1 : (D == 1)
         · go_wp2_with (go_at_call 107;refine (vmust_no _ _).mono ?_;rintro e w9 ⟨rfl,h9⟩;obtain rfl:=h9.symm)
           exact ⟨rfl,HNo.out (by simp [hN,hG,hd1]),HBW.out⟩
         · go_wp2_with (go_at_call 107;refine (vmust_yes _ _).mono ?_;rintro e w9 ⟨rfl,h9⟩;obtain rfl:=h9.symm)
           go_meet
           exact ⟨rfl,HYes.out (by simp [hN,hG,hd1])⟩
   obtain rfl:=used_no HT.out h0 h1 h2 h3 h4 h5 h6 h7 h8 h9
   go_wp2_with (go_at_call 107;refine (vmust_no _ _).mono ?_;rintro e w9 ⟨rfl,h9⟩;obtain rfl:=h9.symm)
   exact ⟨rfl,HNo.out (by simp),HBW.out⟩
 case rest =>
   obtain ⟨rfl,HP⟩:=hcut
   have hC:=HP.out.2
   have hsh:=HSN.out HP.out.1
   have huk:=used_keys HT.out
   have hKO:=HNK.out
   clear HBW HT HSN HNo HYes HP v0 v1 v2 v4 hSS
   cases hq3 : fitsB o
   · rw [hq3] at hC HFI
     have HC:=Lh (show VEnd C (.panicked [{ v:=.iface 167 (.agg #[.int .i64 2]),recovered:=false }]) by rw [show C = 2 by rw [← hC];rfl];exact VEnd.bad (by decide))
     clear hC hq3 hsh huk hKO
     go_wp2_with fail
     refine (HFI.out _).mono ?_
     rintro e w2 ⟨rfl,hbk⟩
     obtain ⟨hl2,hBW,q0,q1,q2,q3,q4,q5,v3⟩:=chk_keep hl1 hl2 hBW hbk q0 q1 q2 q3 q4 q5 v3;clear hbk
     go_wp2_with (go_at_call 107;refine (vmust_no _ _).mono ?_;rintro e w9 ⟨rfl,h9⟩;obtain rfl:=h9.symm)
     exact ⟨rfl,HC.out,hBW⟩
   rw [hq3] at hC HFI
   rw [if_neg (by decide)] at hC
   clear hq3
   go_upto_region 5 with (first | (go_at_call 107;refine (vmust_yes _ _).mono ?_;rintro e w9 ⟨rfl,h9⟩;obtain rfl:=h9.symm) | ((go_at_call 109;refine (HFI.out _).mono ?_);rintro e w2 ⟨rfl,hbk⟩))
   obtain ⟨hl2,hBW,q0,q1,q2,q3,q4,q5,v3⟩:=chk_keep hl1 hl2 hBW hbk q0 q1 q2 q3 q4 q5 v3;clear hbk
   by_cases hq4 : longB K < s.length
   · rw [if_pos hq4] at hC
     rw [hsh,decide_eq_true hq4] at HLO
     have HC:=Lh (show VEnd C (.panicked [{ v:=.iface 167 (.agg #[.int .i64 5]),recovered:=false }]) by rw [← hC];exact VEnd.bad (by decide))
     clear hC hq4 hsh huk hKO
     go_wp2_with fail
     refine (HLO.out _).mono ?_
     rintro e w3 ⟨rfl,hbk⟩
     obtain ⟨hl2,hBW,q0,q1,q2,q3,q4,q5,v3⟩:=chk_keep hl1 hl2 hBW hbk q0 q1 q2 q3 q4 q5 v3;clear hbk
     go_wp2_with (go_at_call 107;refine (vmust_no _ _).mono ?_;rintro e w9 ⟨rfl,h9⟩;obtain rfl:=h9.symm)
     exact ⟨rfl,HC.out,hBW⟩
   rw [if_neg hq4] at hC
   rw [hsh,decide_eq_false hq4] at HLO
   clear hq4 hsh
   go_upto_region 6 with (first | (go_at_call 107;refine (vmust_yes _ _).mono ?_;rintro e w9 ⟨rfl,h9⟩;obtain rfl:=h9.symm) | ((go_at_call 110;refine (HLO.out _).mono ?_);rintro e w3 ⟨rfl,hbk⟩))
   obtain ⟨hl2,hBW,q0,q1,q2,q3,q4,q5,v3⟩:=chk_keep hl1 hl2 hBW hbk q0 q1 q2 q3 q4 q5 v3;clear hbk
   by_cases hq5 : 8191 < nk
   · rw [if_pos hq5] at hC
     have hd5 : decide ((nk : Int) ≤ 8191) = false:=by simp;omega
     have HC:=Lh (show VEnd C (.panicked [{ v:=.iface 167 (.agg #[.int .i64 6]),recovered:=false }]) by rw [← hC];exact VEnd.bad (by decide))
     clear hC hq5 huk hKO
     go_wp2_with (go_at_call 107;refine (vmust_no _ _).mono ?_;rintro e w9 ⟨rfl,h9⟩;obtain rfl:=h9.symm)
     exact ⟨rfl,HC.out,hBW⟩
   rw [if_neg hq5] at hC
   have hd5 : decide ((nk : Int) ≤ 8191) = true:=by simp;omega
   go_upto_region 7 with (go_at_call 107;refine (vmust_yes _ _).mono ?_;rintro e w9 ⟨rfl,h9⟩;obtain rfl:=h9.symm)
   go_cut [] from 11 (fun wx => Below w.heap.size w wx ∧ wx.cell? ⟨w.heap.size,5,none⟩ = some (.slice p2 nk c2) ∧ Hid (keysB o = true))
   case first =>
     have HC3:=Lh (show keysB o = false → VEnd C (.panicked [{ v:=.iface 167 (.agg #[.int .i64 3]),recovered:=false }]) from fun h => by rw [show C = 3 by rw [← hC,h];rfl];exact VEnd.bad (by decide))
     clear hC
     by_cases h5 : K = 5
     · subst h5
       obtain rfl : uk = false:=by rw [huk];decide
       have HKB:=Lh (show keysB o = nameB s by unfold keysB;rw [if_pos hKO.2.1,hKO.2.2])
       clear huk hKO
       cases hnm : nameB s
       · rw [hnm] at HKN HKB
         go_wp2_with (first | (go_at_call 111;refine (HKN.out _).mono ?_;rintro e w4 ⟨rfl,h9⟩;obtain rfl:=h9.symm) | (go_at_call 107;refine (vmust_no _ _).mono ?_;rintro e w9 ⟨rfl,h9⟩;obtain rfl:=h9.symm))
         exact ⟨rfl,HC3.out HKB.out,hBW⟩
       · rw [hnm] at HKN HKB
         go_wp2_with (first | (go_at_call 111;refine (HKN.out _).mono ?_;rintro e w4 ⟨rfl,h9⟩;obtain rfl:=h9.symm) | (go_at_call 107;refine (vmust_yes _ _).mono ?_;rintro e w9 ⟨rfl,h9⟩;obtain rfl:=h9.symm))
         go_meet
         exact ⟨hBW,q5,Lh HKB.out⟩
     · have e5 : (K != 5) = true:=by simpa using h5
       by_cases h79 : K = 7 ∨ K = 9
       · obtain rfl : uk = true:=by rw [huk];exact decide_eq_true h79
         have HKF:=Lh (HKE.out _ hBW h79)
         have h9b : w.heap.size < w3.heap.size:=by omega
         clear huk hKO h79 HKE h5
         cases hkb : keysB o
         · rw [hkb] at HKF
           go_wp2_with (first | ((go_at_call 112;refine (HKF.out).mono ?_);rintro e w4 ⟨rfl,hbk⟩) | (go_at_call 107;refine (vmust_no _ _).mono ?_;rintro e w9 ⟨rfl,h9⟩;obtain rfl:=h9.symm))
           exact ⟨rfl,HC3.out hkb,hBW.trans (hbk.mono hBW.size)⟩
         · rw [hkb] at HKF
           go_wp2_with (first | ((go_at_call 112;refine (HKF.out).mono ?_);rintro e w4 ⟨rfl,hbk⟩) | (go_at_call 107;refine (vmust_yes _ _).mono ?_;rintro e w9 ⟨rfl,h9⟩;obtain rfl:=h9.symm))
           go_meet
           exact ⟨hBW.trans (hbk.mono hBW.size),(World.cell?_of_block (a:=⟨w.heap.size,5,none⟩) (hbk.block _ h9b)).trans q5,Lh hkb⟩
       · obtain rfl : uk = false:=by rw [huk];exact decide_eq_false h79
         have HKB:=Lh (show keysB o = true by
           unfold keysB
           rw [if_neg (by rw [hKO.2.1];exact h5),if_pos ⟨by rw [hKO.2.1];omega,by rw [hKO.2.1];omega⟩])
         clear huk hKO h79 h5
         go_wp2_with (go_at_call 107;refine (vmust_yes _ _).mono ?_;rintro e w9 ⟨rfl,h9⟩;obtain rfl:=h9.symm)
         go_meet
         exact ⟨hBW,q5,HKB⟩
   case rest =>
     clear q0 q1 q2 q3 q4 q5 hBW hl2
     obtain ⟨hBW,q5,HKB⟩:=hcut
     rw [HKB.out] at hC
     have HC:=Lh (show firstBad (o.kids.map (checkB n)) = C from hC)
     have HNK:=Lh hKO
     have HSX:=Lh (And.intro HRW.out.2.2 hBW)
     clear hC hKO huk HKB HFI HLO HKN HKE
     go_wp2
     clear q5
     go_loopw [107] (fun i wr => ∃ k : Nat,k ≤ nk ∧ i = .int .i64 k ∧ Below w.heap.size w wr ∧ Hid (∀ x ∈ o.kids.take k,checkB n x = 0)) (fun i _ => nk - (intOf i).toNat)
     case atStart => exact ⟨0,Nat.zero_le _,rfl,hBW,Lh (by simp)⟩
     case round =>
       obtain ⟨k,hk,rfl,hb,HA⟩:=hrel
       by_cases hlt : k < nk
       · have hRw : RowAt S d wr (.slice p2 nk c2) o.kids := by
           have:=HRW.out.1.kept (fun b h => hb.block b (HRW.out.2.2 b h));rw [HNK.out.1] at this;exact this
         obtain ⟨b,off,rfl⟩ : ∃ b off,p2 = some ⟨b,off,none⟩:=by
           rcases hRw with ⟨e,_⟩ | ⟨b,off,c,e,_⟩
           · have:=HNK.out.1;rw [e] at this;simp at this;omega
           · cases e;exact ⟨_,_,rfl⟩
         obtain ⟨x,p3,n3,e3,p4,n4,e4,hx,hxm,s1,O1,f0,f1,f2,f3,f4,f5⟩:=row_kid hRw HNK.out.1 k hlt
         have hS2 : ∀ b,S b → b < wr.heap.size:=fun b h => Nat.lt_of_lt_of_le (HRW.out.2.2 b h) hb.size
         have HI:=Lh (fun (W : World) (hW : Below wr.heap.size wr W) => HDN.out ▸ IH d W _ x (O1.kept (fun b h => hW.block b (hS2 b h)) d) (HRW.out.2.1 x hxm) (fun b h => Nat.lt_of_lt_of_le (hS2 b h) hW.size))
         have htk : o.kids.take (k + 1) = o.kids.take k ++ [x]:=by
           have hk' : k < o.kids.length:=by rw [HNK.out.1];exact hlt
           rw [List.take_succ_eq_append_getElem hk',← hx];simp [List.getD,hk']
         have hdr : o.kids = o.kids.take k ++ x :: o.kids.drop (k + 1):=by
           have hk' : k < o.kids.length:=by rw [HNK.out.1];exact hlt
           conv => lhs;rw [← List.take_append_drop k o.kids]
           rw [List.drop_eq_getElem_cons hk',← hx];simp [List.getD,hk']
         have HTT:=Lh (And.intro htk hdr)
         unfold objCells at HI
         obtain ⟨y,hy⟩ : ∃ y,checkB n x = y:=⟨_,rfl⟩
         rw [hy] at HI
         have HY:=Lh hy
         have L1:=hS2 b s1
         have hszr:=hb.size
         clear hRw hx hxm O1 hS2 htk hdr hy
         go_wp2_with fail
         refine (HI.out _ bel).mono ?_
         rintro e w4 ⟨⟨hy0,rfl⟩ | ⟨hy0,rfl⟩,hb4⟩
         · have HY0:=Lh hy0
           clear hy0
           go_wp2
           go_roundw
           case rel => exact ⟨k + 1,by omega,by go_num,bel,Lh (fun z hz => by
             rw [HTT.out.1,List.mem_append] at hz
             rcases hz with hz | hz
             · exact HA.out z hz
             · simp only [List.mem_singleton] at hz;subst hz;rw [HY.out];exact HY0.out)⟩
           case measure => simp [intOf];omega
         · have HR1 := Lib.hid (show C = y by
             rw [← HC.out,HTT.out.2,List.map_append,List.map_cons,HY.out]
             exact firstBad_snoc (fun z hz => by obtain ⟨u,hu,rfl⟩:=List.mem_map.1 hz;exact HA.out u hu) hy0 _)
           have HY0:=Lh hy0
           clear hy0
           go_wp2
           exact ⟨rfl,by rw [HR1.out];exact VEnd.bad HY0.out,bel⟩
       · have HR1 := Lib.hid (show C = 0 by
           rw [← HC.out]
           have hkn : k = nk:=by omega
           refine firstBad_zero fun z hz => ?_
           obtain ⟨u,hu,rfl⟩:=List.mem_map.1 hz
           refine HA.out u ?_
           rw [List.take_of_length_le (by rw [HNK.out.1];omega)];exact hu)
         go_wp2
         go_end0
         exact ⟨by rw [HR1.out];exact VEnd.good,hb⟩
theorem vcheck_in (S : Nat → Prop) : ∀ n,n ≤ 24 → VCheck S n
 | 0,_ => vcheck_zero S
 | n + 1,h => vcheck_step S n (by omega) (vcheck_in S n (by omega))
theorem vheap_new (w : World) (o : Obj) : (w.alloc o).heap[w.heap.size]? = some o:=heap_alloc_new w o
theorem vcaught_idle (p : Addr) (w : World) :
   CallsD Tryz.prog 106 #[.pointer (some p)] .returning w fun e u' w' => e = .returned (.tuple #[]) ∧ u' = .returning ∧ w' = w:=by
 refine callsD_of_wpS Tryz.func106 rfl fun c₀ cs hu => ?_
 simp only [Tryz.ntmps106,List.size_toArray,List.length_cons,List.length_nil,Nat.reduceAdd,Nat.reduceSub,Array.replicate_succ,Array.replicate_zero,List.push_toArray,List.append_toArray,List.nil_append,List.cons_append]
 apply wpS_seq
 apply wpS_region
 simp [wpOpsS,go_sem,recoverD,hu,Tryz.ntmps106,Exit.thenS]
 refine wpS_of_wp ?_
 go_wp2
 cases c₀
 simp_all [bodyPostS,results,Tryz.results106]
theorem vcaught_catch (b : Nat) (x y : Int) (older : List PanicEntry) (w : World) (hb : b < w.heap.size) (c0 : w.cell? ⟨b, 0, none⟩ = some (.int .i64 y)) (f0 : w.frozen? ⟨b, 0, none⟩ = false) :
   CallsD Tryz.prog 106 #[.pointer (some ⟨b,0,none⟩)] (.panicking ({ v:=.iface 167 (.agg #[.int .i64 x]),recovered:=false } :: older)) w fun e u' w' =>
     e = .returned (.tuple #[]) ∧ u' = .panicking ({ v:=.iface 167 (.agg #[.int .i64 x]),recovered:=true } :: older) ∧ w' = (w.setCell ⟨b,0,none⟩ (.int .i64 x)).alloc (.cells #[.int .i64 x] 167):=by
 have hta : ∀ (x : Int) (w : World),(Instr.typeAssert (.iface 167 (.agg #[.int .i64 x])) 20 167 true).run Tryz.prog w = .ok (.tuple #[.agg #[.int .i64 x],.bool true]) w:=fun _ _ => by kernel_rfl
 have n1 : ¬ b = w.heap.size:=by omega
 have n2 : ¬ w.heap.size = b:=by omega
 refine callsD_of_wpS Tryz.func106 rfl fun c₀ cs hu => ?_
 simp only [Tryz.ntmps106,List.size_toArray,List.length_cons,List.length_nil,Nat.reduceAdd,Nat.reduceSub,Array.replicate_succ,Array.replicate_zero,List.push_toArray,List.append_toArray,List.nil_append,List.cons_append]
 apply wpS_seq
 apply wpS_region
 simp [wpOpsS,go_sem,recoverD,hu,Tryz.ntmps106,Exit.thenS]
 refine wpS_of_wp ?_
 go_wp2
 cases c₀
 simp_all [bodyPostS,results,Tryz.results106]
def ObBox (w : World) (b : Nat) (cs : List Value) : Prop:=w.heap[b]? = some (.cells cs.toArray 36 (0,0))
theorem obbox_six {w : World} {b : Nat} {v0 v1 v2 v3 v4 v5 : Value} (h : ObBox w b [v0, v1, v2, v3, v4, v5]) :
   w.cell? ⟨b,0,none⟩ = some v0 ∧ w.cell? ⟨b,1,none⟩ = some v1 ∧ w.cell? ⟨b,2,none⟩ = some v2 ∧ w.cell? ⟨b,3,none⟩ = some v3 ∧ w.cell? ⟨b,4,none⟩ = some v4 ∧ w.cell? ⟨b,5,none⟩ = some v5:=by
 unfold ObBox at h;simp [World.cell?,h]
theorem vcheck1_in (S : Nat → Prop) (d b : Nat) (w : World) (cs : List Value) (o : Ob) (hB : ObBox w b cs) (h : ObjAt S d w cs o) (hsm : smallO d o) (hS : ∀ b, S b → b < w.heap.size) :
   Calls Tryz.prog 64 #[.pointer (some ⟨b,0,none⟩)] w fun e w' => VEnd (checkB 24 o) e ∧ Below w.heap.size w w':=by
 have HC:=Lh (vcheck_in S 24 (by decide) d w cs o h hsm hS)
 obtain ⟨p1,c1,p2,c2,rfl⟩:=h.form2
 unfold objCells at HC hB
 obtain ⟨q0,q1,q2,q3,q4,q5⟩:=obbox_six hB
 rw [show (25 - ((24 : Nat) : Int)) = 1 by decide] at HC
 clear h hS hsm hB
 go_enter Tryz.func64,Tryz.ntmps64
 go_wp2_with fail
 refine HC.out.mono ?_
 rintro e w1 ⟨⟨hy,rfl⟩ | ⟨hy,rfl⟩,hb1⟩
 · have HY:=Lh (show VEnd (checkB 24 o) (.returned (.tuple #[])) by rw [hy];exact VEnd.good)
   clear hy
   go_wp2
   go_end0
   exact ⟨HY.out,hb1⟩
 · have HY:=Lh (VEnd.bad hy)
   clear hy
   go_wp2
   exact ⟨rfl,HY.out,hb1⟩
theorem vcaught_in (S : Nat → Prop) (d b : Nat) (w : World) (cs : List Value) (o : Ob) (hB : ObBox w b cs) (h : ObjAt S d w cs o) (hsm : smallO d o) (hS : ∀ b, S b → b < w.heap.size) (hb : b < w.heap.size) :
   Calls Tryz.prog 63 #[.func (.func 64) #[] #[.pointer (some ⟨b,0,none⟩)]] w fun e w' => e = .returned (.int .i64 (checkB 24 o)) ∧ Below w.heap.size w w':=by
 have hmf : ∀ (fn : Fn) (first cap : Array Value) (w : World),(Instr.makeFunc fn first cap).run Tryz.prog w = .ok (.func fn first cap) w:=fun _ _ _ _ => rfl
 have HC:=Lh (fun (W : World) (hW : Below w.heap.size w W) => vcheck1_in S d b W cs o ((hW.block b hb).trans hB) (h.kept (fun b h => hW.block b (hS b h)) d) hsm (fun b h => Nat.lt_of_lt_of_le (hS b h) hW.size))
 clear hB h hS hsm
 go_enter_defers Tryz.func63,Tryz.ntmps63
 go_wp2_with fail
 refine (HC.out _ bel).mono ?_
 rintro e w1 ⟨⟨hy,rfl⟩ | ⟨hy,rfl⟩,hb1⟩
 · have hl1:=hb1.size
   simp at hl1
   have hk : w1.heap[w.heap.size]? = some (.cells #[.int .i64 0] 43 (0,0)):=by
     rw [hb1.block _ (by simp)];exact vheap_new _ _
   have y0 : w1.cell? ⟨w.heap.size,0,none⟩ = some (.int .i64 0):=by simp [World.cell?,hk]
   have yf : w1.frozen? ⟨w.heap.size,0,none⟩ = false:=by simp [World.frozen?,hk]
   have HY:=Lh hy
   clear hy hk
   go_wp2
   refine leaves_cons (f:=106) (args:=#[.pointer (some ⟨w.heap.size,0,none⟩)]) (by simp) (by simp [go_sem]) ?_
   refine (vcaught_idle _ _).mono ?_
   rintro e u' w'' ⟨rfl,rfl,rfl⟩
   simp [Leaves,settle,results,Tryz.results63,go_sem,y0,yf]
   exact ⟨HY.out.symm,bel⟩
 · have hl1:=hb1.size
   simp at hl1
   have hk : w1.heap[w.heap.size]? = some (.cells #[.int .i64 0] 43 (0,0)):=by
     rw [hb1.block _ (by simp)];exact vheap_new _ _
   have y0 : w1.cell? ⟨w.heap.size,0,none⟩ = some (.int .i64 0):=by simp [World.cell?,hk]
   have yf : w1.frozen? ⟨w.heap.size,0,none⟩ = false:=by simp [World.frozen?,hk]
   have n1 : ¬ w.heap.size = w1.heap.size:=by omega
   clear hy hk
   go_wp2
   refine leaves_cons (f:=106) (args:=#[.pointer (some ⟨w.heap.size,0,none⟩)]) (by simp) (by simp [go_sem]) ?_
   refine (vcaught_catch _ _ 0 _ _ (by omega) y0 yf).mono ?_
   rintro e u' w'' ⟨rfl,rfl,rfl⟩
   have z0 : ((w1.setCell ⟨w.heap.size,0,none⟩ (.int .i64 (checkB 24 o))).alloc (.cells #[.int .i64 (checkB 24 o)] 167)).cell? ⟨w.heap.size,0,none⟩ = some (.int .i64 (checkB 24 o)) :=
     (World.cell?_of_block (a:=⟨w.heap.size,0,none⟩) (Below.heap_alloc _ _ _ (by simp;omega))).trans (World.cell?_setCell_same _ _ _ y0)
   simp [Leaves,settle,results,Tryz.results63,go_sem,z0]
   exact bel
theorem vCheck_in (S : Nat → Prop) (d : Nat) (w : World) (cs : List Value) (o : Ob) (h : ObjAt S d w cs o) (hsm : smallO d o) (hS : ∀ b, S b → b < w.heap.size) :
   Calls Tryz.prog 36 #[.agg cs.toArray] w fun e w' => e = .returned (.int .i64 (checkB 24 o)) ∧ Below w.heap.size w w':=by
 have hmf : ∀ (fn : Fn) (first cap : Array Value) (w : World),(Instr.makeFunc fn first cap).run Tryz.prog w = .ok (.func fn first cap) w:=fun _ _ _ _ => rfl
 have hbw : Below w.heap.size w (w.alloc (.cells cs.toArray 36)):=bel
 have HC:=Lh (vcaught_in S d w.heap.size (w.alloc (.cells cs.toArray 36)) cs o (vheap_new _ _) (h.kept (fun b h => hbw.block b (hS b h)) d) hsm (fun b h => Nat.lt_of_lt_of_le (hS b h) hbw.size) (by simp))
 obtain ⟨p1,c1,p2,c2,rfl⟩:=h.form2
 unfold objCells at HC
 unfold objCells
 clear h hS hsm hbw
 go_enter Tryz.func36,Tryz.ntmps36
 go_wp2_with fail
 refine HC.out.mono ?_
 rintro e w1 ⟨rfl,hb1⟩
 go_wp2
 go_ret
 exact ⟨rfl,bel⟩
def tameO : Nat → Ob → Prop
 | 0,_ => False
 | d + 1,o => o.keys.length ≤ 8192 ∧ o.kids.length ≤ 8192 ∧ ∀ k ∈ o.kids,tameO d k
theorem vid_in (K N G : Int) (s : ByteArray) (p1 p2 : Option Addr) (n1 c1 n2 c2 : Nat) (w : World) :
   Calls Tryz.prog 95 #[.agg #[.int .i64 K,.int .i64 N,.int .i64 G,.string s,.slice p1 n1 c1,.slice p2 n2 c2]] w fun e w' => e = .returned (.agg #[.int .i64 K,.int .i64 N,.int .i64 G,.string s,.slice p1 n1 c1,.slice p2 n2 c2]) ∧ Below w.heap.size w w':=by
 go_enter Tryz.func95,Tryz.ntmps95
 go_wp2
 refine bodyPost_ret (v:=.agg #[.int .i64 K,.int .i64 N,.int .i64 G,.string s,.slice p1 n1 c1,.slice p2 n2 c2]) (by simp [results,Tryz.results95,go_sem]) rfl ⟨rfl,bel⟩
theorem keyed_in (o : Ob) (p1 p2 : Option Addr) (n1 c1 n2 c2 : Nat) (w : World) :
   Calls Tryz.prog 66 #[.agg #[.int .i64 o.kind,.int .i64 o.n,.int .i64 o.g,.string ⟨o.s.toArray⟩,.slice p1 n1 c1,.slice p2 n2 c2]] w fun e w' => e = .returned (.bool (o.kind == 7 || o.kind == 9)) ∧ Below w.heap.size w w':=by
 generalize o.kind = K
 by_cases h7 : K = 7
 · subst h7
   go_enter Tryz.func66,Tryz.ntmps66
   go_wp2
   go_ret
   exact ⟨rfl,bel⟩
 · have e7 : (K == 7) = false:=by simpa using h7
   clear h7
   go_enter Tryz.func66,Tryz.ntmps66
   go_wp2
   go_ret
   exact ⟨ret_bool (by rw [e7,Bool.false_or]),bel⟩
theorem keys_copy (S : Nat → Prop) (kv : Value) (ks : List L) (w : World) (h : KeysAt S w kv ks) (hn : ks.length ≤ 8192) :
   Calls Tryz.prog 139 #[kv] w fun e w' => ∃ p c,e = .returned (.slice p ks.length c) ∧ KeysAt (fun b => w.heap.size ≤ b) w' (.slice p ks.length c) ks ∧ Below w.heap.size w w':=by
 rcases h with ⟨rfl,p,c,rfl⟩ | ⟨b,o,c,rfl,hb,hc⟩
 · cases p with
   | none =>
     refine (Tryz.slices_Clone_string_nil 0 c w).mono ?_
     rintro e w' ⟨rfl,rfl⟩
     exact ⟨none,0,rfl,.inl ⟨rfl,_,_,rfl⟩,Below.refl _ _⟩
   | some a =>
     refine (Tryz.slices_Clone_string_zero a c w).mono ?_
     rintro e w' ⟨v',rfl,hown,_,hbe⟩
     obtain ⟨p,c,rfl⟩:=own_slice hown
     exact ⟨p,c,rfl,.inl ⟨rfl,_,_,rfl⟩,hbe⟩
 · refine (Tryz.slices_Clone_string b o ks.length c (ks.map fun x => (⟨x.toArray⟩ : ByteArray)) w (by simp) (by omega) (fun j hj => by
     have hj2 : j < ks.length:=by simpa using hj
     rw [hc j hj2];simp [List.getD,hj2])).mono ?_
   rintro e w' ⟨v',rfl,hown,_,hbe⟩
   obtain ⟨p,c',rfl⟩:=own_slice hown
   refine ⟨p,c',rfl,?_,hbe⟩
   have h0:=hown
   rcases hown.2 with ⟨h1,h2⟩ | ⟨g,cap,cur,h1,h2,h3,_⟩
   · exact .inl ⟨List.eq_nil_of_length_eq_zero h2,_,_,by rw [h2]⟩
   · simp only [Value.slice.injEq] at h1
     obtain ⟨rfl,_,rfl⟩:=h1
     refine .inr ⟨g,0,c',rfl,h2,fun i hi => ?_⟩
     have:=World.ownsRow.cellAt h0 i (by omega)
     rw [Nat.zero_add,this]
     rw [List.take_of_length_le (by simp)]
     simp [hi]
theorem made_six {z0 z1 z2 z3 z4 z5 : Value} (n : Nat) : (madeCells #[z0,z1,z2,z3,z4,z5] (n * 6)).toList = (List.replicate n [z0,z1,z2,z3,z4,z5]).flatten:=by
 have h6 : ∀ cs ∈ List.replicate n [z0,z1,z2,z3,z4,z5],cs.length = 6:=by intro cs h;rw [List.eq_of_mem_replicate h];rfl
 have hl:=flat6 h6
 rw [List.length_replicate] at hl
 refine List.ext_getElem? fun i => ?_
 by_cases hi : i < n * 6
 · have e : 6 * (i / 6) + i % 6 = i:=by omega
   have hq : (List.replicate n [z0,z1,z2,z3,z4,z5])[i / 6]? = some [z0,z1,z2,z3,z4,z5]:=by
     rw [List.getElem?_eq_getElem (by simp;omega)];simp
   have r:=flat6_get h6 hq (show i % 6 < 6 by omega)
   rw [e] at r
   rw [r]
   have hm : i % 6 < 6:=by omega
   simp only [madeCells,Array.toList_map,Array.toList_range,List.getElem?_map,List.getElem?_range hi,Option.map_some]
   show some (#[z0,z1,z2,z3,z4,z5][i % 6]!) = _
   match i % 6,hm with
   | 0,_ => rfl
   | 1,_ => rfl
   | 2,_ => rfl
   | 3,_ => rfl
   | 4,_ => rfl
   | 5,_ => rfl
 · rw [List.getElem?_eq_none (by simp [size_madeCells];omega),List.getElem?_eq_none (by omega)]
end Go.Proofs.YtinafodpgjbedaaGreatDoor
