/- Parts of the proof: GVaA GPl. -/
import Derived.Test.YtfgdhcemidlnfaaGreatDoorWqd
import Derived.Lib.IndexLaws
import Derived.Test.YtfgdhcemidlnfaaGreatDoorWqb
import Derived.Test.YtfgdhcemidlnfaaGreatDoorWqc
import Derived.Lib.AppendIntMem
import Derived.Test.YtfgdhcemidlnfaaGreatDoorWqa
import Derived.Lib.TrimUEq
import Derived.Lib.ValidU
import Derived.Lib.RuneBytes
import Derived.Deep.AppendLies
import Derived.OwnWalk
import Derived.IntWalk
import Derived.Laws.BitsLemmas
set_option linter.all false
set_option maxRecDepth 100000
set_option maxHeartbeats 8000000
namespace Go.Proofs.YtfgdhcemidlnfaaGreatDoor
open Go.RowKit Fo
theorem vmust_yes (k : Int) (w : World) : Calls Tryz.prog 175 #[.bool true,.int .i64 k] w fun e w' => e = .returned (.tuple #[]) ∧ w' = w:=by
 go_enter Tryz.func175,Tryz.ntmps175
 go_wp2
 go_end0
 exact ⟨rfl,rfl⟩
theorem vmust_no (k : Int) (w : World) : Calls Tryz.prog 175 #[.bool false,.int .i64 k] w fun e w' => e = (.panicked [{ v:=.iface 190 (.agg #[.int .i64 k]),recovered:=false }]) ∧ w' = w:=by
 go_enter Tryz.func175,Tryz.ntmps175
 go_wp2
 exact ⟨rfl,rfl,rfl⟩
theorem within_in (n a b : Int) (w : World) : Calls Tryz.prog 209 #[.int .i64 n,.int .i64 a,.int .i64 b] w fun e w' => e = .returned (.bool (decide (a ≤ n) && decide (n ≤ b))) ∧ w' = w:=by
 go_enter Tryz.func209,Tryz.ntmps209
 go_wp2
 all_goals go_ret
 all_goals exact ⟨ret_bool (by simp_all;try omega),rfl⟩
theorem withinI_in (n a b : Int) (w : World) : Calls Tryz.prog 210 #[.int .i64 n,.int .i64 a,.int .i64 b] w fun e w' => e = .returned (.bool (decide (a ≤ n) && decide (n ≤ b))) ∧ w' = w:=by
 go_enter Tryz.func210,Tryz.ntmps210
 go_wp2
 all_goals go_ret
 all_goals exact ⟨ret_bool (by simp_all;try omega),rfl⟩
theorem zero_ix (l : L) : decide (Lib.indexByte l 0 < 0) = l.all (· != 0):=by
 cases h : l.all (· != 0)
 · rw [decide_eq_false_iff_not]
   intro hlt
   have hge:=Lib.indexByte_ge l 0
   have hn:=Lib.indexByte_none (show Lib.indexByte l 0 = -1 by omega)
   rw [List.all_eq_false] at h
   obtain ⟨x,hx,hx0⟩:=h
   obtain ⟨k,hk,rfl⟩:=List.mem_iff_getElem.1 hx
   refine hn k ?_
   rw [List.getElem?_eq_getElem hk]
   simp at hx0
   rw [hx0]
 · rw [decide_eq_true_eq]
   apply Classical.byContradiction
   intro hnl
   obtain ⟨o,ho⟩ : ∃ o : Nat,Lib.indexByte l 0 = o:=⟨(Lib.indexByte l 0).toNat,by omega⟩
   have:=(Lib.indexByte_some ho).1
   obtain ⟨hlt,he⟩:=List.getElem?_eq_some_iff.1 this
   rw [List.all_eq_true] at h
   have:=h _ (List.getElem_mem hlt)
   rw [he] at this
   simp at this
theorem vkey_in (x : L) (hx : x.length ≤ 140737488355328) (w : World) : Calls Tryz.prog 179 #[.string ⟨x.toArray⟩] w fun e w' => e = .returned (.bool (nameB x)) ∧ w' = w:=by
 have H:=Lh (show nameB x = (decide (x.length ≤ 127) && decide (Lib.indexByte x 0 < 0)) by rw [zero_ix,Bool.and_comm];rfl)
 by_cases h : x.length ≤ 127
 · have d1 : decide ((x.length : Int) ≤ 127) = true:=by simp;omega
   have HR:=Lh (show nameB x = decide (Lib.indexByte x 0 < 0) by rw [H.out,decide_eq_true h,Bool.true_and])
   clear h hx
   go_enter Tryz.func179,Tryz.ntmps179
   go_wp2_with (go_at_call 211;refine (Tryz.strings_IndexByte _ _ _).mono ?_;rintro e w' ⟨rfl,rfl⟩)
   go_ret
   exact ⟨ret_bool (by rw [HR.out]),rfl⟩
 · have d1 : decide ((x.length : Int) ≤ 127) = false:=by simp;omega
   have HR:=Lh (show nameB x = false by rw [H.out,decide_eq_false h,Bool.false_and])
   clear h hx
   go_enter Tryz.func179,Tryz.ntmps179
   go_wp2
   go_ret
   exact ⟨ret_bool HR.out.symm,rfl⟩
def usedV (K : Int) : Bool × Bool × Bool × Bool × Bool × Bool :=
 if K = 0 then (false,false,false,false,false,true)
 else if K = 1 ∨ K = 2 ∨ K = 3 then (true,false,false,false,false,true)
 else if K = 4 ∨ K = 5 then (false,false,true,false,false,true)
 else if K = 6 then (false,false,false,false,true,true)
 else if K = 7 then (false,false,false,true,true,true)
 else if K = 8 then (true,true,false,false,false,true)
 else if K = 9 then (false,false,true,true,true,true)
 else (false,false,false,false,false,false)
def usedR (u : Bool × Bool × Bool × Bool × Bool × Bool) : Value:=.tuple #[.agg #[.bool u.1,.bool u.2.1,.bool u.2.2.1,.bool u.2.2.2.1,.bool u.2.2.2.2.1],.bool u.2.2.2.2.2]
theorem used_in (K : Int) (w : World) : Calls Tryz.prog 176 #[.int .i64 K] w fun e w' => e = .returned (usedR (usedV K)) ∧ Below w.heap.size w w':=by
 by_cases h0 : K = 0
 · subst h0
   go_enter Tryz.func176,Tryz.ntmps176
   go_wp2
   refine bodyPost_ret (v:=usedR (false,false,false,false,false,true)) (by simp [results,Tryz.results176,go_sem,usedR]) rfl ⟨rfl,bel⟩
 by_cases h1 : K = 1
 · subst h1
   go_enter Tryz.func176,Tryz.ntmps176
   go_wp2
   refine bodyPost_ret (v:=usedR (true,false,false,false,false,true)) (by simp [results,Tryz.results176,go_sem,usedR]) rfl ⟨rfl,bel⟩
 by_cases h2 : K = 2
 · subst h2
   go_enter Tryz.func176,Tryz.ntmps176
   go_wp2
   refine bodyPost_ret (v:=usedR (true,false,false,false,false,true)) (by simp [results,Tryz.results176,go_sem,usedR]) rfl ⟨rfl,bel⟩
 by_cases h3 : K = 3
 · subst h3
   go_enter Tryz.func176,Tryz.ntmps176
   go_wp2
   refine bodyPost_ret (v:=usedR (true,false,false,false,false,true)) (by simp [results,Tryz.results176,go_sem,usedR]) rfl ⟨rfl,bel⟩
 by_cases h4 : K = 4
 · subst h4
   go_enter Tryz.func176,Tryz.ntmps176
   go_wp2
   refine bodyPost_ret (v:=usedR (false,false,true,false,false,true)) (by simp [results,Tryz.results176,go_sem,usedR]) rfl ⟨rfl,bel⟩
 by_cases h5 : K = 5
 · subst h5
   go_enter Tryz.func176,Tryz.ntmps176
   go_wp2
   refine bodyPost_ret (v:=usedR (false,false,true,false,false,true)) (by simp [results,Tryz.results176,go_sem,usedR]) rfl ⟨rfl,bel⟩
 by_cases h6 : K = 6
 · subst h6
   go_enter Tryz.func176,Tryz.ntmps176
   go_wp2
   refine bodyPost_ret (v:=usedR (false,false,false,false,true,true)) (by simp [results,Tryz.results176,go_sem,usedR]) rfl ⟨rfl,bel⟩
 by_cases h7 : K = 7
 · subst h7
   go_enter Tryz.func176,Tryz.ntmps176
   go_wp2
   refine bodyPost_ret (v:=usedR (false,false,false,true,true,true)) (by simp [results,Tryz.results176,go_sem,usedR]) rfl ⟨rfl,bel⟩
 by_cases h8 : K = 8
 · subst h8
   go_enter Tryz.func176,Tryz.ntmps176
   go_wp2
   refine bodyPost_ret (v:=usedR (true,true,false,false,false,true)) (by simp [results,Tryz.results176,go_sem,usedR]) rfl ⟨rfl,bel⟩
 by_cases h9 : K = 9
 · subst h9
   go_enter Tryz.func176,Tryz.ntmps176
   go_wp2
   refine bodyPost_ret (v:=usedR (false,false,true,true,true,true)) (by simp [results,Tryz.results176,go_sem,usedR]) rfl ⟨rfl,bel⟩
 rw [show usedV K = (false,false,false,false,false,false) by simp_all [usedV]]
 have e0 : (K == 0) = false:=by simpa using h0
 have e1 : (K == 1) = false:=by simpa using h1
 have e2 : (K == 2) = false:=by simpa using h2
 have e3 : (K == 3) = false:=by simpa using h3
 have e4 : (K == 4) = false:=by simpa using h4
 have e5 : (K == 5) = false:=by simpa using h5
 have e6 : (K == 6) = false:=by simpa using h6
 have e7 : (K == 7) = false:=by simpa using h7
 have e8 : (K == 8) = false:=by simpa using h8
 have e9 : (K == 9) = false:=by simpa using h9
 clear h0 h1 h2 h3 h4 h5 h6 h7 h8 h9
 go_enter Tryz.func176,Tryz.ntmps176
 go_wp2
 refine bodyPost_ret (v:=usedR (false,false,false,false,false,false)) (by simp [results,Tryz.results176,go_sem,usedR]) rfl ⟨rfl,bel⟩
theorem vfits_in (K N G : Int) (s : L) (p1 p2 : Option Addr) (n1 c1 n2 c2 : Nat) (w : World) :
   Calls Tryz.prog 177 #[.agg #[.int .i64 K,.int .i64 N,.int .i64 G,.string ⟨s.toArray⟩,.slice p1 n1 c1,.slice p2 n2 c2]] w fun e w' => e = .returned (.bool (fitsV K N G)) ∧ Below w.heap.size w w':=by
 have HW:=Lh (fun n a b W => within_in n a b W)
 have HI:=Lh (fun n a b W => withinI_in n a b W)
 go_enter Tryz.func177,Tryz.ntmps177
 go_wp2_with (first | (go_at_call 209;refine (HW.out _ _ _ _).mono ?_;rintro e w1 ⟨rfl,rfl⟩) | (go_at_call 210;refine (HI.out _ _ _ _).mono ?_;rintro e w1 ⟨rfl,rfl⟩))
 all_goals go_ret
 all_goals exact ⟨ret_bool (by unfold fitsV;simp_all;try (first | omega | (rw [Bool.eq_iff_iff];simp;omega))),bel⟩
def shortV (K : Int) (n : Nat) : Bool:=if K = 4 then decide (n ≤ 32767) else if K = 5 then decide (n ≤ 127) else decide (n ≤ 1048576)
theorem vshort_in (K N G : Int) (s : L) (p1 p2 : Option Addr) (n1 c1 n2 c2 : Nat) (w : World) :
   Calls Tryz.prog 178 #[.agg #[.int .i64 K,.int .i64 N,.int .i64 G,.string ⟨s.toArray⟩,.slice p1 n1 c1,.slice p2 n2 c2]] w fun e w' => e = .returned (.bool (shortV K s.length)) ∧ Below w.heap.size w w':=by
 obtain ⟨ss,hss⟩ : ∃ ss : ByteArray,ss = ⟨s.toArray⟩:=⟨_,rfl⟩
 have hsz : s.length = ss.size:=by rw [hss];rfl
 rw [← hss,hsz]
 clear hss hsz
 go_enter Tryz.func178,Tryz.ntmps178
 go_wp2
 all_goals go_ret
 all_goals exact ⟨ret_bool (by unfold shortV;simp_all;try omega),bel⟩
theorem vkeys_dict (S : Nat → Prop) (d : Nat) (o : Ob) (b1 f1 c1 b2 f2 c2 : Nat) (w : World) (hK : KeysAt S w (.slice (some ⟨b1,f1,none⟩) o.keys.length c1) o.keys) (hR : RowAt S d w (.slice (some ⟨b2,f2,none⟩) o.kids.length c2) o.kids) (hS : ∀ b,S b → b < w.heap.size) (hk : o.kind = 7) (hl : o.keys.length = o.kids.length) (hle : o.keys.length ≤ 140737488355328) (hx : ∀ x ∈ o.keys,x.length ≤ 140737488355328) : Calls Tryz.prog 180 #[.agg #[.int .i64 o.kind,.int .i64 o.n,.int .i64 o.g,.string ⟨o.s.toArray⟩,.slice (some ⟨b1,f1,none⟩) o.keys.length c1,.slice (some ⟨b2,f2,none⟩) o.kids.length c2]] w fun e w' => e = .returned (.bool (keysB o)) ∧ Below w.heap.size w w':=by
 obtain ⟨n,hn⟩ : ∃ n,o.keys.length = n:=⟨_,rfl⟩
 have HK:=Lh hK
 have HR:=Lh hR
 have HS:=Lh hS
 have HX:=Lh hx
 rw [← hl,hn]
 rw [hn] at hle
 have HN:=Lh (And.intro hn (hl.symm.trans hn))
 rw [hk]
 have HK0:=Lh hk
 clear hK hR hS hn hl hx hk
 go_enter Tryz.func180,Tryz.ntmps180
 go_wp2
 go_loopw [15] (fun i wr => ∃ k : Nat,k ≤ n ∧ i = .int .i64 k ∧ Below (w.heap.size + 1) (w.alloc (.cells #[.int .i64 7,.int .i64 o.n,.int .i64 o.g,.string ⟨o.s.toArray⟩,.slice (some ⟨b1,f1,none⟩) n c1,.slice (some ⟨b2,f2,none⟩) n c2] 26)) wr ∧ Hid (∀ j,j < k → keyAt o j = true)) (fun i _ => n - (intOf i).toNat)
 case atStart => exact ⟨0,Nat.zero_le _,rfl,bel,Lh (by intro j hj;omega)⟩
 case round =>
   obtain ⟨k,hk,rfl,hb,HA⟩:=hrel
   by_cases hlt : k < n
   · have hbw : Below w.heap.size w wr:=(show Below w.heap.size w (w.alloc _) from bel).trans (hb.mono (by omega))
     obtain ⟨s1,g1⟩:=key_at (HK.out.kept (fun b h => hbw.block b (HS.out b h))) rfl k (by rw [HN.out.1];exact hlt)
     obtain ⟨s2,g2⟩:=rowKinds (HR.out.kept (fun b h => hbw.block b (HS.out b h))) rfl k (by rw [HN.out.2];exact hlt)
     have hp : 0 < k → wr.cell? ⟨b1,f1 + (k - 1),none⟩ = some (.string ⟨(o.keys.getD (k - 1) []).toArray⟩):=fun h => (key_at (HK.out.kept (fun b h => hbw.block b (HS.out b h))) rfl (k - 1) (by rw [HN.out.1];omega)).2
     obtain ⟨x,hx⟩ : ∃ x,o.keys.getD k [] = x:=⟨_,rfl⟩
     obtain ⟨y,hy⟩ : ∃ y,o.keys.getD (k - 1) [] = y:=⟨_,rfl⟩
     obtain ⟨kk,hkk⟩ : ∃ kk,(o.kids.getD k .zero).kind = kk:=⟨_,rfl⟩
     rw [hx] at g1
     rw [hy] at hp
     rw [hkk] at g2
     have c0 : wr.cell? ⟨w.heap.size,0,none⟩ = some (.int .i64 7):=by rw [hb.cell (p:=⟨w.heap.size,0,none⟩) (by show w.heap.size < _;omega)];simp [World.cell?_alloc_at]
     have c4 : wr.cell? ⟨w.heap.size,4,none⟩ = some (.slice (some ⟨b1,f1,none⟩) n c1):=by rw [hb.cell (p:=⟨w.heap.size,4,none⟩) (by show w.heap.size < _;omega)];simp [World.cell?_alloc_at]
     have c5 : wr.cell? ⟨w.heap.size,5,none⟩ = some (.slice (some ⟨b2,f2,none⟩) n c2):=by rw [hb.cell (p:=⟨w.heap.size,5,none⟩) (by show w.heap.size < _;omega)];simp [World.cell?_alloc_at]
     have hxm : x.length ≤ 140737488355328:=by
       rw [← hx]; exact HX.out _ (by have : k < o.keys.length := by rw [HN.out.1]; exact hlt
                                     simp [List.getD,this])
     have HNM:=Lh (fun W => vkey_in x hxm W)
     have HC:=Lh (show keyAt o k = (nameB x && (k == 0 || decide (y < x)) && !(x == wLength && o.kind == 9) && kk != 0) by unfold keyAt;rw [hx,hy,hkk])
     have HF:=Lh (fun h => keysB_false (o:=o) (k:=k) (by rw [HK0.out];decide) (by rw [HN.out.1];exact hlt) h)
     have hk9:=HK0.out
     rw [hk9] at HC
     clear hx hy hkk hxm hbw hk9
     cases hq : nameB x
     · rw [hq] at HC HNM
       have HF1:=Lh (HF.out (by rw [HC.out];simp))
       clear hp hq
       go_wp2_with (go_at_call 179;refine (HNM.out _).mono ?_;rintro e w1 ⟨rfl,rfl⟩)
       all_goals go_ret
       all_goals exact ⟨ret_bool HF1.out.symm,bel⟩
     · rw [hq] at HC HNM
       cases hle : (decide (0 < k) && !(Op.bytesLess y x))
       · have hle2 : 0 < k → Op.bytesLess y x = true:=fun h => by simpa [h] using hle
         have HC2:=Lh (show keyAt o k = (!(x == wLength && (7 : Int) == 9) && kk != 0) by
           rw [HC.out]
           by_cases h0 : k = 0
           · subst h0;simp
           · have:=hle2 (by omega)
             rw [bytesLess_eq] at this;rw [this];simp)
         clear hle HC
         have HZ0:=Lh (show kk = 0 ∨ ¬ kk = 0 from Classical.em _)
         by_cases hw : x = ([76,101,110,103,116,104] : L)
         · subst hw
           cases hz : (kk == 0)
           · have HZ:=Lh hz
             by_cases h0 : 0 < k
             · have hp':=hp h0
               have h1:=hle2 h0
               clear hp hle2
               go_wp2_with (go_at_call 179;refine (HNM.out _).mono ?_;rintro e w1 ⟨rfl,rfl⟩)
               go_roundw
               case rel => exact ⟨k + 1,by omega,by go_num,by exact hb,Lh (fun j hj => by
                 by_cases hjk : j < k
                 · exact HA.out j hjk
                 · have : j = k:=by omega
                   subst this
                   rw [HC2.out];have a2:=HZ.out;first | (simp [wLength];done) | (simp [wLength] at a2 ⊢;exact a2) | (simp [wLength,HW.out] at a2 ⊢;exact a2))⟩
               case measure => simp [intOf];omega
             · have hk0 : k = 0:=by omega
               subst hk0
               simp only [Nat.add_zero,Nat.zero_mul] at g1 g2
               clear hp hle2
               go_wp2_with (go_at_call 179;refine (HNM.out _).mono ?_;rintro e w1 ⟨rfl,rfl⟩)
               go_roundw
               case rel => exact ⟨1,by omega,by go_num,by exact hb,Lh (fun j hj => by
                 by_cases hjk : j < 0
                 · exact HA.out j hjk
                 · have : j = 0:=by omega
                   subst this
                   rw [HC2.out];have a2:=HZ.out;first | (simp [wLength];done) | (simp [wLength] at a2 ⊢;exact a2) | (simp [wLength,HW.out] at a2 ⊢;exact a2))⟩
               case measure => simp [intOf];omega
           · have HZ:=Lh hz
             by_cases h0 : 0 < k
             · have hp':=hp h0
               have h1:=hle2 h0
               clear hp hle2
               go_wp2_with (go_at_call 179;refine (HNM.out _).mono ?_;rintro e w1 ⟨rfl,rfl⟩)
               go_ret
               exact ⟨ret_bool (HF.out (by rw [HC2.out];have a2:=HZ.out;first | (simp [wLength];done) | (simp [wLength] at a2 ⊢;exact a2) | (simp [wLength,HW.out] at a2 ⊢;exact a2))).symm,bel⟩
             · have hk0 : k = 0:=by omega
               subst hk0
               simp only [Nat.add_zero,Nat.zero_mul] at g1 g2
               clear hp hle2
               go_wp2_with (go_at_call 179;refine (HNM.out _).mono ?_;rintro e w1 ⟨rfl,rfl⟩)
               go_ret
               exact ⟨ret_bool (HF.out (by rw [HC2.out];have a2:=HZ.out;first | (simp [wLength];done) | (simp [wLength] at a2 ⊢;exact a2) | (simp [wLength,HW.out] at a2 ⊢;exact a2))).symm,bel⟩
         · have hw' : (x == ([76,101,110,103,116,104] : L)) = false:=by simpa using hw
           have HW:=Lh hw'
           cases hz : (kk == 0)
           · have HZ:=Lh hz
             by_cases h0 : 0 < k
             · have hp':=hp h0
               have h1:=hle2 h0
               clear hp hle2
               go_wp2_with (go_at_call 179;refine (HNM.out _).mono ?_;rintro e w1 ⟨rfl,rfl⟩)
               go_roundw
               case rel => exact ⟨k + 1,by omega,by go_num,by exact hb,Lh (fun j hj => by
                 by_cases hjk : j < k
                 · exact HA.out j hjk
                 · have : j = k:=by omega
                   subst this
                   rw [HC2.out];have a2:=HZ.out;first | (simp [wLength];done) | (simp [wLength] at a2 ⊢;exact a2) | (simp [wLength,HW.out] at a2 ⊢;exact a2))⟩
               case measure => simp [intOf];omega
             · have hk0 : k = 0:=by omega
               subst hk0
               simp only [Nat.add_zero,Nat.zero_mul] at g1 g2
               clear hp hle2
               go_wp2_with (go_at_call 179;refine (HNM.out _).mono ?_;rintro e w1 ⟨rfl,rfl⟩)
               go_roundw
               case rel => exact ⟨1,by omega,by go_num,by exact hb,Lh (fun j hj => by
                 by_cases hjk : j < 0
                 · exact HA.out j hjk
                 · have : j = 0:=by omega
                   subst this
                   rw [HC2.out];have a2:=HZ.out;first | (simp [wLength];done) | (simp [wLength] at a2 ⊢;exact a2) | (simp [wLength,HW.out] at a2 ⊢;exact a2))⟩
               case measure => simp [intOf];omega
           · have HZ:=Lh hz
             by_cases h0 : 0 < k
             · have hp':=hp h0
               have h1:=hle2 h0
               clear hp hle2
               go_wp2_with (go_at_call 179;refine (HNM.out _).mono ?_;rintro e w1 ⟨rfl,rfl⟩)
               go_ret
               exact ⟨ret_bool (HF.out (by rw [HC2.out];have a2:=HZ.out;first | (simp [wLength];done) | (simp [wLength] at a2 ⊢;exact a2) | (simp [wLength,HW.out] at a2 ⊢;exact a2))).symm,bel⟩
             · have hk0 : k = 0:=by omega
               subst hk0
               simp only [Nat.add_zero,Nat.zero_mul] at g1 g2
               clear hp hle2
               go_wp2_with (go_at_call 179;refine (HNM.out _).mono ?_;rintro e w1 ⟨rfl,rfl⟩)
               go_ret
               exact ⟨ret_bool (HF.out (by rw [HC2.out];have a2:=HZ.out;first | (simp [wLength];done) | (simp [wLength] at a2 ⊢;exact a2) | (simp [wLength,HW.out] at a2 ⊢;exact a2))).symm,bel⟩
       · have h0 : 0 < k:=by simp at hle;exact hle.1
         have h1 : Op.bytesLess y x = false:=by simp at hle;exact hle.2
         have HF1 := Lib.hid (HF.out (by rw [HC.out, ← bytesLess_eq, h1]; have : k ≠ 0 := by omega
                                         simp [this]))
         have hp':=hp h0
         clear hp hle
         go_wp2_with (go_at_call 179;refine (HNM.out _).mono ?_;rintro e w1 ⟨rfl,rfl⟩)
         go_ret
         exact ⟨ret_bool HF1.out.symm,bel⟩
   · have HE := Lib.hid (show keysB o = true by
       have hkn : k = n:=by omega
       unfold keysB
       rw [if_neg (by rw [HK0.out];decide),if_neg (by rw [HK0.out];decide),HN.out.1,HN.out.2]
       simp only [beq_self_eq_true,Bool.true_and,List.all_eq_true,List.mem_range]
       intro j hj;exact HA.out j (by omega))
     go_wp2
     go_ret
     exact ⟨ret_bool HE.out.symm,bel⟩
theorem vkeys_stream (S : Nat → Prop) (d : Nat) (o : Ob) (b1 f1 c1 b2 f2 c2 : Nat) (w : World) (hK : KeysAt S w (.slice (some ⟨b1,f1,none⟩) o.keys.length c1) o.keys) (hR : RowAt S d w (.slice (some ⟨b2,f2,none⟩) o.kids.length c2) o.kids) (hS : ∀ b,S b → b < w.heap.size) (hk : o.kind = 9) (hl : o.keys.length = o.kids.length) (hle : o.keys.length ≤ 140737488355328) (hx : ∀ x ∈ o.keys,x.length ≤ 140737488355328) : Calls Tryz.prog 180 #[.agg #[.int .i64 o.kind,.int .i64 o.n,.int .i64 o.g,.string ⟨o.s.toArray⟩,.slice (some ⟨b1,f1,none⟩) o.keys.length c1,.slice (some ⟨b2,f2,none⟩) o.kids.length c2]] w fun e w' => e = .returned (.bool (keysB o)) ∧ Below w.heap.size w w':=by
 obtain ⟨n,hn⟩ : ∃ n,o.keys.length = n:=⟨_,rfl⟩
 have HK:=Lh hK
 have HR:=Lh hR
 have HS:=Lh hS
 have HX:=Lh hx
 rw [← hl,hn]
 rw [hn] at hle
 have HN:=Lh (And.intro hn (hl.symm.trans hn))
 rw [hk]
 have HK0:=Lh hk
 clear hK hR hS hn hl hx hk
 go_enter Tryz.func180,Tryz.ntmps180
 go_wp2
 go_loopw [15] (fun i wr => ∃ k : Nat,k ≤ n ∧ i = .int .i64 k ∧ Below (w.heap.size + 1) (w.alloc (.cells #[.int .i64 9,.int .i64 o.n,.int .i64 o.g,.string ⟨o.s.toArray⟩,.slice (some ⟨b1,f1,none⟩) n c1,.slice (some ⟨b2,f2,none⟩) n c2] 26)) wr ∧ Hid (∀ j,j < k → keyAt o j = true)) (fun i _ => n - (intOf i).toNat)
 case atStart => exact ⟨0,Nat.zero_le _,rfl,bel,Lh (by intro j hj;omega)⟩
 case round =>
   obtain ⟨k,hk,rfl,hb,HA⟩:=hrel
   by_cases hlt : k < n
   · have hbw : Below w.heap.size w wr:=(show Below w.heap.size w (w.alloc _) from bel).trans (hb.mono (by omega))
     obtain ⟨s1,g1⟩:=key_at (HK.out.kept (fun b h => hbw.block b (HS.out b h))) rfl k (by rw [HN.out.1];exact hlt)
     obtain ⟨s2,g2⟩:=rowKinds (HR.out.kept (fun b h => hbw.block b (HS.out b h))) rfl k (by rw [HN.out.2];exact hlt)
     have hp : 0 < k → wr.cell? ⟨b1,f1 + (k - 1),none⟩ = some (.string ⟨(o.keys.getD (k - 1) []).toArray⟩):=fun h => (key_at (HK.out.kept (fun b h => hbw.block b (HS.out b h))) rfl (k - 1) (by rw [HN.out.1];omega)).2
     obtain ⟨x,hx⟩ : ∃ x,o.keys.getD k [] = x:=⟨_,rfl⟩
     obtain ⟨y,hy⟩ : ∃ y,o.keys.getD (k - 1) [] = y:=⟨_,rfl⟩
     obtain ⟨kk,hkk⟩ : ∃ kk,(o.kids.getD k .zero).kind = kk:=⟨_,rfl⟩
     rw [hx] at g1
     rw [hy] at hp
     rw [hkk] at g2
     have c0 : wr.cell? ⟨w.heap.size,0,none⟩ = some (.int .i64 9):=by rw [hb.cell (p:=⟨w.heap.size,0,none⟩) (by show w.heap.size < _;omega)];simp [World.cell?_alloc_at]
     have c4 : wr.cell? ⟨w.heap.size,4,none⟩ = some (.slice (some ⟨b1,f1,none⟩) n c1):=by rw [hb.cell (p:=⟨w.heap.size,4,none⟩) (by show w.heap.size < _;omega)];simp [World.cell?_alloc_at]
     have c5 : wr.cell? ⟨w.heap.size,5,none⟩ = some (.slice (some ⟨b2,f2,none⟩) n c2):=by rw [hb.cell (p:=⟨w.heap.size,5,none⟩) (by show w.heap.size < _;omega)];simp [World.cell?_alloc_at]
     have hxm : x.length ≤ 140737488355328:=by
       rw [← hx]; exact HX.out _ (by have : k < o.keys.length := by rw [HN.out.1]; exact hlt
                                     simp [List.getD,this])
     have HNM:=Lh (fun W => vkey_in x hxm W)
     have HC:=Lh (show keyAt o k = (nameB x && (k == 0 || decide (y < x)) && !(x == wLength && o.kind == 9) && kk != 0) by unfold keyAt;rw [hx,hy,hkk])
     have HF:=Lh (fun h => keysB_false (o:=o) (k:=k) (by rw [HK0.out];decide) (by rw [HN.out.1];exact hlt) h)
     have hk9:=HK0.out
     rw [hk9] at HC
     clear hx hy hkk hxm hbw hk9
     cases hq : nameB x
     · rw [hq] at HC HNM
       have HF1:=Lh (HF.out (by rw [HC.out];simp))
       clear hp hq
       go_wp2_with (go_at_call 179;refine (HNM.out _).mono ?_;rintro e w1 ⟨rfl,rfl⟩)
       all_goals go_ret
       all_goals exact ⟨ret_bool HF1.out.symm,bel⟩
     · rw [hq] at HC HNM
       cases hle : (decide (0 < k) && !(Op.bytesLess y x))
       · have hle2 : 0 < k → Op.bytesLess y x = true:=fun h => by simpa [h] using hle
         have HC2:=Lh (show keyAt o k = (!(x == wLength && (9 : Int) == 9) && kk != 0) by
           rw [HC.out]
           by_cases h0 : k = 0
           · subst h0;simp
           · have:=hle2 (by omega)
             rw [bytesLess_eq] at this;rw [this];simp)
         clear hle HC
         have HZ0:=Lh (show kk = 0 ∨ ¬ kk = 0 from Classical.em _)
         by_cases hw : x = ([76,101,110,103,116,104] : L)
         · subst hw
           have HZ:=HZ0
           by_cases h0 : 0 < k
           · have hp':=hp h0
             have h1:=hle2 h0
             clear hp hle2
             go_wp2_with (go_at_call 179;refine (HNM.out _).mono ?_;rintro e w1 ⟨rfl,rfl⟩)
             go_ret
             exact ⟨ret_bool (HF.out (by rw [HC2.out];have a2:=HZ.out;first | (simp [wLength];done) | (simp [wLength] at a2 ⊢;exact a2) | (simp [wLength,HW.out] at a2 ⊢;exact a2))).symm,bel⟩
           · have hk0 : k = 0:=by omega
             subst hk0
             simp only [Nat.add_zero,Nat.zero_mul] at g1 g2
             clear hp hle2
             go_wp2_with (go_at_call 179;refine (HNM.out _).mono ?_;rintro e w1 ⟨rfl,rfl⟩)
             go_ret
             exact ⟨ret_bool (HF.out (by rw [HC2.out];have a2:=HZ.out;first | (simp [wLength];done) | (simp [wLength] at a2 ⊢;exact a2) | (simp [wLength,HW.out] at a2 ⊢;exact a2))).symm,bel⟩
         · have hw' : (x == ([76,101,110,103,116,104] : L)) = false:=by simpa using hw
           have HW:=Lh hw'
           cases hz : (kk == 0)
           · have HZ:=Lh hz
             by_cases h0 : 0 < k
             · have hp':=hp h0
               have h1:=hle2 h0
               clear hp hle2
               go_wp2_with (go_at_call 179;refine (HNM.out _).mono ?_;rintro e w1 ⟨rfl,rfl⟩)
               go_roundw
               case rel => exact ⟨k + 1,by omega,by go_num,by exact hb,Lh (fun j hj => by
                 by_cases hjk : j < k
                 · exact HA.out j hjk
                 · have : j = k:=by omega
                   subst this
                   rw [HC2.out];have a2:=HZ.out;first | (simp [wLength];done) | (simp [wLength] at a2 ⊢;exact a2) | (simp [wLength,HW.out] at a2 ⊢;exact a2))⟩
               case measure => simp [intOf];omega
             · have hk0 : k = 0:=by omega
               subst hk0
               simp only [Nat.add_zero,Nat.zero_mul] at g1 g2
               clear hp hle2
               go_wp2_with (go_at_call 179;refine (HNM.out _).mono ?_;rintro e w1 ⟨rfl,rfl⟩)
               go_roundw
               case rel => exact ⟨1,by omega,by go_num,by exact hb,Lh (fun j hj => by
                 by_cases hjk : j < 0
                 · exact HA.out j hjk
                 · have : j = 0:=by omega
                   subst this
                   rw [HC2.out];have a2:=HZ.out;first | (simp [wLength];done) | (simp [wLength] at a2 ⊢;exact a2) | (simp [wLength,HW.out] at a2 ⊢;exact a2))⟩
               case measure => simp [intOf];omega
           · have HZ:=Lh hz
             by_cases h0 : 0 < k
             · have hp':=hp h0
               have h1:=hle2 h0
               clear hp hle2
               go_wp2_with (go_at_call 179;refine (HNM.out _).mono ?_;rintro e w1 ⟨rfl,rfl⟩)
               go_ret
               exact ⟨ret_bool (HF.out (by rw [HC2.out];have a2:=HZ.out;first | (simp [wLength];done) | (simp [wLength] at a2 ⊢;exact a2) | (simp [wLength,HW.out] at a2 ⊢;exact a2))).symm,bel⟩
             · have hk0 : k = 0:=by omega
               subst hk0
               simp only [Nat.add_zero,Nat.zero_mul] at g1 g2
               clear hp hle2
               go_wp2_with (go_at_call 179;refine (HNM.out _).mono ?_;rintro e w1 ⟨rfl,rfl⟩)
               go_ret
               exact ⟨ret_bool (HF.out (by rw [HC2.out];have a2:=HZ.out;first | (simp [wLength];done) | (simp [wLength] at a2 ⊢;exact a2) | (simp [wLength,HW.out] at a2 ⊢;exact a2))).symm,bel⟩
       · have h0 : 0 < k:=by simp at hle;exact hle.1
         have h1 : Op.bytesLess y x = false:=by simp at hle;exact hle.2
         have HF1 := Lib.hid (HF.out (by rw [HC.out, ← bytesLess_eq, h1]; have : k ≠ 0 := by omega
                                         simp [this]))
         have hp':=hp h0
         clear hp hle
         go_wp2_with (go_at_call 179;refine (HNM.out _).mono ?_;rintro e w1 ⟨rfl,rfl⟩)
         go_ret
         exact ⟨ret_bool HF1.out.symm,bel⟩
   · have HE := Lib.hid (show keysB o = true by
       have hkn : k = n:=by omega
       unfold keysB
       rw [if_neg (by rw [HK0.out];decide),if_neg (by rw [HK0.out];decide),HN.out.1,HN.out.2]
       simp only [beq_self_eq_true,Bool.true_and,List.all_eq_true,List.mem_range]
       intro j hj;exact HA.out j (by omega))
     go_wp2
     go_ret
     exact ⟨ret_bool HE.out.symm,bel⟩
theorem vkeys_dif (o : Ob) (p1 p2 : Option Addr) (c1 c2 : Nat) (w : World) (h : o.kind = 7 ∨ o.kind = 9) (hl : o.keys.length ≠ o.kids.length) :
   Calls Tryz.prog 180 #[.agg #[.int .i64 o.kind,.int .i64 o.n,.int .i64 o.g,.string ⟨o.s.toArray⟩,.slice p1 o.keys.length c1,.slice p2 o.kids.length c2]] w fun e w' => e = .returned (.bool (keysB o)) ∧ Below w.heap.size w w':=by
 rcases h with hk | hk
 ·
   have HC:=Lh (show keysB o = false by unfold keysB;rw [if_neg (by omega),if_neg (by omega)];simp [hl])
   rw [hk]
   clear hk
   have hl' : ((o.keys.length : Int) != (o.kids.length : Int)) = true:=by simp;omega
   have hl2 : ¬ o.keys.length = o.kids.length:=hl
   obtain ⟨n1,hn1⟩ : ∃ n,o.keys.length = n:=⟨_,rfl⟩
   obtain ⟨n2,hn2⟩ : ∃ n,o.kids.length = n:=⟨_,rfl⟩
   rw [hn1,hn2] at hl' hl2
   rw [hn1,hn2]
   clear hn1 hn2 hl
   go_enter Tryz.func180,Tryz.ntmps180
   go_wp2
   go_ret
   exact ⟨ret_bool HC.out.symm,bel⟩
 ·
   have HC:=Lh (show keysB o = false by unfold keysB;rw [if_neg (by omega),if_neg (by omega)];simp [hl])
   rw [hk]
   clear hk
   have hl' : ((o.keys.length : Int) != (o.kids.length : Int)) = true:=by simp;omega
   have hl2 : ¬ o.keys.length = o.kids.length:=hl
   obtain ⟨n1,hn1⟩ : ∃ n,o.keys.length = n:=⟨_,rfl⟩
   obtain ⟨n2,hn2⟩ : ∃ n,o.kids.length = n:=⟨_,rfl⟩
   rw [hn1,hn2] at hl' hl2
   rw [hn1,hn2]
   clear hn1 hn2 hl
   go_enter Tryz.func180,Tryz.ntmps180
   go_wp2
   go_ret
   exact ⟨ret_bool HC.out.symm,bel⟩
theorem vkeys_nil (o : Ob) (p1 p2 : Option Addr) (c1 c2 : Nat) (w : World) (h : o.kind = 7 ∨ o.kind = 9) (h1 : o.keys.length = 0) (h2 : o.kids.length = 0) :
   Calls Tryz.prog 180 #[.agg #[.int .i64 o.kind,.int .i64 o.n,.int .i64 o.g,.string ⟨o.s.toArray⟩,.slice p1 o.keys.length c1,.slice p2 o.kids.length c2]] w fun e w' => e = .returned (.bool (keysB o)) ∧ Below w.heap.size w w':=by
 rcases h with hk | hk
 ·
   have HC:=Lh (show keysB o = true by unfold keysB;rw [if_neg (by omega),if_neg (by omega),h1,h2];simp)
   rw [hk]
   clear hk
   rw [h1,h2]
   clear h1 h2
   go_enter Tryz.func180,Tryz.ntmps180
   go_wp2
   refine wp_loop_rounds 1 ?_
   rw [rounds_succ]
   go_wp2
   go_ret
   exact ⟨ret_bool HC.out.symm,bel⟩
 ·
   have HC:=Lh (show keysB o = true by unfold keysB;rw [if_neg (by omega),if_neg (by omega),h1,h2];simp)
   rw [hk]
   clear hk
   rw [h1,h2]
   clear h1 h2
   go_enter Tryz.func180,Tryz.ntmps180
   go_wp2
   refine wp_loop_rounds 1 ?_
   rw [rounds_succ]
   go_wp2
   go_ret
   exact ⟨ret_bool HC.out.symm,bel⟩
theorem vkeys_in (S : Nat → Prop) (d : Nat) (o : Ob) (kv dv : Value) (w : World) (hK : KeysAt S w kv o.keys) (hR : RowAt S d w dv o.kids)
   (hS : ∀ b,S b → b < w.heap.size) (hle : o.keys.length ≤ 140737488355328) (hx : ∀ x ∈ o.keys,x.length ≤ 140737488355328) (h79 : o.kind = 7 ∨ o.kind = 9) :
   Calls Tryz.prog 180 #[.agg #[.int .i64 o.kind,.int .i64 o.n,.int .i64 o.g,.string ⟨o.s.toArray⟩,kv,dv]] w fun e w' => e = .returned (.bool (keysB o)) ∧ Below w.heap.size w w':=by
 have a1 : ∃ p c,kv = .slice p o.keys.length c:=by
   rcases hK with ⟨e,p,c,h⟩ | ⟨b,o,c,h,_⟩
   · exact ⟨_,_,by rw [e];exact h⟩
   · exact ⟨_,_,h⟩
 have a2 : ∃ p c,dv = .slice p o.kids.length c:=by
   rcases hR with ⟨e,p,c,h⟩ | ⟨b,o,c,h,_⟩
   · exact ⟨_,_,by rw [e];exact h⟩
   · exact ⟨_,_,h⟩
 by_cases hl : o.keys.length = o.kids.length
 · by_cases h0 : o.keys.length = 0
   · obtain ⟨p1,c1,rfl⟩:=a1
     obtain ⟨p2,c2,rfl⟩:=a2
     exact vkeys_nil o p1 p2 c1 c2 w h79 h0 (by omega)
   · have hK':=hK
     have hR':=hR
     rcases hK with ⟨e,_⟩ | ⟨b1,f1,c1,rfl,_⟩
     · rw [e] at h0;exact absurd rfl h0
     · rcases hR with ⟨e,_⟩ | ⟨b2,f2,c2,rfl,_⟩
       · rw [e] at hl;simp at hl;simp [hl] at h0
       · rcases h79 with h | h
         · exact vkeys_dict S d o b1 f1 c1 b2 f2 c2 w hK' hR' hS h hl hle hx
         · exact vkeys_stream S d o b1 f1 c1 b2 f2 c2 w hK' hR' hS h hl hle hx
 · obtain ⟨p1,c1,rfl⟩:=a1
   obtain ⟨p2,c2,rfl⟩:=a2
   exact vkeys_dif o p1 p2 c1 c2 w h79 hl
def TabP (w : World) : Prop := Lib.TabIs Tryz.prog w "internal/strconv.uint64pow10" .u64 Lib.pow10Tab
theorem TabP.below {w w' : World} (h : TabP w) (hb : Below w.heap.size w w') : TabP w':=Lib.tabBelow_of_tabIs h w' hb
theorem below_grow (w : World) (k : Nat) (os : Array Obj) : Below w.heap.size w (Go.«Sort».grow (w.drewN k) os) :=
 ⟨rfl,rfl,rfl,by simp [Go.«Sort».grow],fun b hb => by
   show (w.heap ++ os)[b]? = w.heap[b]?
   rw [Array.getElem?_append_left hb]⟩
theorem dec_dig (n : Nat) : Lib.decDigits n = digU n:=by
 induction n using Nat.strongRecOn with
 | _ n ih =>
   unfold Lib.decDigits digU
   by_cases h : n < 10
   · rw [dif_pos h,if_pos h]
   · rw [dif_neg h,if_neg h,ih (n / 10) (by omega)]
theorem itoa_dig (n : Int) : Lib.itoa n = digI n:=by
 unfold Lib.itoa digI
 by_cases h : n < 0
 · rw [if_pos h,if_pos h,dec_dig]
 · rw [if_neg h,if_neg h,dec_dig,show n.toNat = n.natAbs by omega]
def intV (n : Int) : Value:=if n < -2147483647 ∨ 2147483647 < n then .tuple #[.string ⟨#[]⟩,.int .i64 2] else .tuple #[.string ⟨(digI n).toArray⟩,.int .i64 0]
theorem pInt_in (n : Int) (h0 : -9223372036854775808 ≤ n) (h1 : n ≤ 9223372036854775807) (w : World) (hT : TabP w) :
   Calls Tryz.prog 91 #[.int .i64 n] w fun e w' => e = .returned (intV n) ∧ Below w.heap.size w w':=by
 have HF:=Lh (fun W (hW : TabP W) => Tryz.strconv_FormatInt_10 n h0 h1 W hW)
 rw [itoa_dig] at HF
 by_cases h2 : n < -2147483647
 · have d0 : decide (n < -2147483647) = true:=decide_eq_true h2
   have HV:=Lh (show intV n = .tuple #[.string ⟨#[]⟩,.int .i64 2] by unfold intV;rw [if_pos (.inl h2)])
   clear h2
   go_enter Tryz.func91,Tryz.ntmps91
   go_wp2
   go_ret2
   exact ⟨by rw [HV.out];rfl,Below.refl _ _⟩
 · have d0 : decide (n < -2147483647) = false:=decide_eq_false h2
   by_cases h3 : 2147483647 < n
   · have d1 : decide (2147483647 < n) = true:=decide_eq_true h3
     have HV:=Lh (show intV n = .tuple #[.string ⟨#[]⟩,.int .i64 2] by unfold intV;rw [if_pos (.inr h3)])
     clear h2 h3
     go_enter Tryz.func91,Tryz.ntmps91
     go_wp2
     go_ret2
     exact ⟨by rw [HV.out];rfl,Below.refl _ _⟩
   · have d1 : decide (2147483647 < n) = false:=decide_eq_false h3
     have HV:=Lh (show intV n = .tuple #[.string ⟨(digI n).toArray⟩,.int .i64 0] by unfold intV;rw [if_neg (by omega)])
     clear h2 h3
     go_enter Tryz.func91,Tryz.ntmps91
     go_wp2_with fail
     refine (HF.out _ hT).mono ?_
     rintro e w1 ⟨rfl,k,os,rfl⟩
     go_wp2
     go_ret2
     exact ⟨by rw [HV.out];rfl,below_grow _ _ _⟩
theorem pad_in (n k : Nat) (hn : n ≤ 2147483647) (hk1 : 1 ≤ k) (hk : k ≤ 20) (hd : (digU n).length ≤ k) (w : World) (hT : TabP w) :
   Calls Tryz.prog 92 #[.int .i64 n,.int .i64 k] w fun e w' => e = .returned (.string ⟨(padW k n).toArray⟩) ∧ Below w.heap.size w w':=by
 have HF:=Lh (fun W (hW : TabP W) => Tryz.strconv_Itoa (n : Int) (by omega) (by omega) W hW)
 rw [itoa_dig,show digI (n : Int) = digU n by unfold digI;rw [if_neg (by omega)];rfl] at HF
 obtain ⟨D,hD⟩ : ∃ D,digU n = D:=⟨_,rfl⟩
 rw [hD] at HF hd
 have HR:=Lh (fun W => Tryz.strings_Repeat ⟨#[48]⟩ (k - D.length) W (by omega) (by show 1 * _ ≤ _;omega))
 have HP:=Lh (show padW k n = List.replicate (k - D.length) 48 ++ D by unfold padW;rw [hD])
 have d0 : decide ((n : Int) < 0) = false:=by simp
 have d1 : decide ((k : Int) < 1) = false:=by simp;omega
 have d2 : decide ((20 : Int) < (k : Int)) = false:=by simp;omega
 have d3 : decide (k < D.length) = false:=by simp;omega
 have hs : (k : Int) - (D.length : Int) = ((k - D.length : Nat) : Int):=by omega
 have hl : Lib.repeatL [48] (k - D.length) = List.replicate (k - D.length) 48:=by
   generalize k - D.length = m
   induction m with
   | zero => rfl
   | succ m ih => rw [Lib.repeatL,ih];rfl
 rw [show (⟨#[48]⟩ : ByteArray).data.toList = [48] from rfl,hl] at HR
 obtain ⟨m,hm⟩ : ∃ m,k - D.length = m:=⟨_,rfl⟩
 rw [hm] at HR HP hs
 have hm2 : m ≤ 20:=by omega
 have hlr : (List.replicate m (48 : UInt8)).length = m:=List.length_replicate
 obtain ⟨Z,hZ⟩ : ∃ Z : L,List.replicate m (48 : UInt8) = Z:=⟨_,rfl⟩
 rw [hZ] at HR HP hlr
 have g1 : ¬ 9223372036854775807 < Z.length + D.length:=by omega
 clear hl hm hZ hD
 go_enter Tryz.func92,Tryz.ntmps92
 go_wp2_with fail
 refine (HF.out _ hT).mono ?_
 rintro e w1 ⟨rfl,k1,os,rfl⟩
 have hb1:=below_grow w k1 os
 obtain ⟨w1,hw1⟩ : ∃ w1,Go.«Sort».grow (w.drewN k1) os = w1:=⟨_,rfl⟩
 rw [hw1] at hb1 ⊢
 clear hw1
 go_wp2_with fail
 refine (HR.out _).mono ?_
 rintro e w2 ⟨rfl,hb2⟩
 go_wp2
 go_ret
 exact ⟨by rw [HP.out];simp [ByteArray.mk_append_mk],hb1.trans (hb2.mono hb1.size)⟩
end Go.Proofs.YtfgdhcemidlnfaaGreatDoor
namespace Fo
def chexD (n : Nat) : UInt8:=if n < 10 then UInt8.ofNat (48 + n) else UInt8.ofNat (55 + n)
def hexL (l : L) : L:=l.flatMap fun c => [chexD (c.toNat / 16),chexD (c.toNat % 16)]
end Fo
namespace Go.Proofs.YtfgdhcemidlnfaaGreatDoor
open Go.RowKit Fo
abbrev chexLit : ByteArray:=⟨#[48,49,50,51,52,53,54,55,56,57,65,66,67,68,69,70]⟩
theorem chexLit_at (n : Nat) (h : n < 16) : chexLit[n]'(by show n < 16;omega) = chexD n:=by
 have h2 : n = 0 ∨ n = 1 ∨ n = 2 ∨ n = 3 ∨ n = 4 ∨ n = 5 ∨ n = 6 ∨ n = 7 ∨ n = 8 ∨ n = 9 ∨ n = 10 ∨ n = 11 ∨ n = 12 ∨ n = 13 ∨ n = 14 ∨ n = 15:=by omega
 rcases h2 with rfl | rfl | rfl | rfl | rfl | rfl | rfl | rfl | rfl | rfl | rfl | rfl | rfl | rfl | rfl | rfl <;> rfl
theorem hexL_snoc (l : L) (c : UInt8) : hexL (l ++ [c]) = hexL l ++ [chexD (c.toNat / 16),chexD (c.toNat % 16)]:=by
 simp [hexL]
theorem hexL_len' (x : L) : (hexL x).length = 2 * x.length:=by
 induction x with
 | nil => rfl
 | cons c x ih =>
   have e : hexL (c :: x) = chexD (c.toNat / 16) :: chexD (c.toNat % 16) :: hexL x:=rfl
   rw [e];simp [ih];omega
theorem take_one (s : ByteArray) (k : Nat) (h : k < s.size) : s.data.toList.take (k + 1) = s.data.toList.take k ++ [s[k]]:=by
 rw [List.take_succ_eq_append_getElem (by simpa using h)];rfl
theorem chex_in (s : ByteArray) (hs : s.size ≤ 70000000000000) (w : World) :
   Calls Tryz.prog 219 #[.string s] w fun e w' => e = .returned (.string ⟨(hexL s.data.toList).toArray⟩) ∧ Below w.heap.size w w':=by
 have q0 : IntKind.i64.wrap (2 * (s.size : Int)) = 2 * (s.size : Int):=IntWalk.i64_in _ (by omega)
 obtain ⟨i0,hi0,y0,y1,y2⟩:=info_parts Tryz.infoU8
 go_enter Tryz.func219,Tryz.ntmps219
 go_wp2_with (at_make;refine wpList_make_own _ rfl _ _ 98 rfl w.heap.size 5 i0 (.int .u8 0) 1 Tryz.underlying98 hi0 y0 y1 .i64 .i64 (2 * (s.size : Int)) (2 * s.size) rfl rfl (by omega) (by rw [y2];omega) (by unfold maxLen;omega) (by simp) ?_;intro w1 hown1 hgrow1)
 have hb1 : Below w.heap.size w w1:=(Below.refl _ _).grown hgrow1 (Nat.le_refl _) (fun k hk => by cases hk)
 clear hgrow1 i0 hi0 y0 y1 y2 q0
 go_loopw [3,11] (fun v i wr => ∃ k : Nat,k ≤ s.size ∧ i = .int .i64 k ∧ Below w.heap.size w wr ∧ ownB wr w.heap.size v (hexL (s.data.toList.take k))) (fun _ i _ => s.size - (intOf i).toNat)
 case atStart => exact ⟨0,by omega,rfl,hb1,hown1⟩
 case round =>
   clear hb1 hown1
   obtain ⟨k,hk,rfl,hb,hown⟩:=hrel
   by_cases hlt : k < s.size
   · skip
     have hBr:=hb.size
     obtain ⟨xs,hxs⟩ : ∃ xs,hexL (s.data.toList.take k) = xs:=⟨_,rfl⟩
     have hxl : xs.length = 2 * k:=by rw [← hxs,hexL_len'];have h2 : s.data.size = s.size:=rfl;simp;omega
     have HT:=Lh (take_one s k hlt)
     have HU:=Lh hxs
     rw [hxs] at hown
     clear hxs
     obtain ⟨p,c,rfl⟩:=ownB_slice hown
     obtain ⟨a,ha⟩ : ∃ a,s[k] = a:=⟨_,rfl⟩
     have hb1:=UInt8.toNat_lt a
     obtain ⟨i0,hi0,y0,y1,y2⟩:=info_parts Tryz.infoU8
     have v1 : a.toNat / 16 < 16:=by omega
     have v2 : a.toNat % 16 < 16:=by omega
     have v3 : (a.toNat : Int) / 16 < 16:=by omega
     have v4 : (a.toNat : Int) % 16 < 16:=by omega
     have v5 : (0 : Int) ≤ (a.toNat : Int) / 16:=by omega
     have v6 : (0 : Int) ≤ (a.toNat : Int) % 16:=by omega
     have v7 : ((a.toNat : Int) / 16).toNat = a.toNat / 16:=by omega
     have v8 : ((a.toNat : Int) % 16).toNat = a.toNat % 16:=by omega
     have HN:=Lh (show hexL (s.data.toList.take (k + 1)) = xs ++ [chexD (a.toNat / 16),chexD (a.toNat % 16)] by
       rw [HT.out,hexL_snoc,HU.out,ha])
     have E1:=Lh (chexLit_at (a.toNat / 16) v1)
     have E2:=Lh (chexLit_at (a.toNat % 16) v2)
     have hown2 : wr.drew.ownsRow w.heap.size 5 1 (.slice p xs.length c) xs.length (xs.map fun c : UInt8 => Value.int .u8 (c.toNat : Int)):=hown
     have hm1 : xs.length + 2 ≤ maxLen:=by unfold maxLen;omega
     have hm2 : (xs.length + 2) * 1 ≤ 140737488355328:=by omega
     clear HU HT hxl
     have e15 : bits BinOp.and IntKind.u8 (a.toNat : Int) 15 = (a.toNat : Int) % 16:=u8_and15 _ (by omega) (by omega)
     go_wp2_with fail
     go_region_law (refine step_append_lies _ (by rfl) _ _ _ (by rfl) w.heap.size 5 i0 (.int .u8 0) 1 1 Tryz.underlying98 hi0 y0 y1 y2 rfl (by omega) (.slice p xs.length c) xs.length (xs.map fun c : UInt8 => Value.int .u8 (c.toNat : Int)) (by rfl) (hown2.alloc _) ⟨wr.heap.size,0,none⟩ 2 2 [.int .u8 ((chexLit[a.toNat / 16]'v1).toNat : Int),.int .u8 ((chexLit[a.toNat % 16]'v2).toNat : Int)] (by rfl) (by rfl) (World.news_of_block (cs:=#[.int .u8 ((chexLit[a.toNat / 16]'v1).toNat : Int),.int .u8 ((chexLit[a.toNat % 16]'v2).toNat : Int)]) (t:=5) (fr:=(0,0)) (heap_alloc_new wr.drew _)) (by intro u hu;simp at hu;rcases hu with rfl | rfl <;> rfl) (by omega) hm1 hm2 (by simp;omega) (wr.heap.size + 1) (by simp) ?_;intro g2 cap w5 hown5 hgrow hat hlt5)
     all_goals
       have hX5 : ownB w5 w.heap.size (.slice (some ⟨g2,0,none⟩) (xs.length + 2) cap) (xs ++ [chexD (a.toNat / 16),chexD (a.toNat % 16)]):=by
         have h:=hown5
         rw [E1.out,E2.out] at h
         unfold ownB;simpa using h
       have hb5 : Below w.heap.size w w5:=((hb.drew).alloc hBr _).grown hgrow (by simp;omega) (own_base hown)
       clear hgrow hat
       go_wp2
       go_roundw
     all_goals first
       | (case rel => exact ⟨k + 1,by omega,by go_num,hb5,by rw [HN.out];exact hX5⟩)
       | (case measure => simp [intOf];omega)
   · skip
     have HF:=Lh (show hexL (s.data.toList.take k) = hexL s.data.toList by rw [List.take_of_length_le (by have h2 : s.data.size = s.size:=rfl;simp;omega)])
     rw [HF.out] at hown
     obtain ⟨p,c,rfl⟩:=ownB_slice hown
     have hcv:=convB hown
     go_wp2
     go_ret
     exact ⟨rfl,hb⟩
theorem oct3 (c : UInt8) : UInt8.ofNat ((48 + ((c.toNat : Int) / 64) % 8).toNat) = 48 + c / 64 ∧ UInt8.ofNat ((48 + ((c.toNat : Int) / 8) % 8).toNat) = 48 + c / 8 % 8 ∧ UInt8.ofNat ((48 + (c.toNat : Int) % 8).toNat) = 48 + c % 8:=by
 have h : ∀ n,n < 256 → (UInt8.ofNat ((48 + (((UInt8.ofNat n).toNat : Int) / 64) % 8).toNat) = 48 + (UInt8.ofNat n) / 64 ∧ UInt8.ofNat ((48 + (((UInt8.ofNat n).toNat : Int) / 8) % 8).toNat) = 48 + (UInt8.ofNat n) / 8 % 8 ∧ UInt8.ofNat ((48 + ((UInt8.ofNat n).toNat : Int) % 8).toNat) = 48 + (UInt8.ofNat n) % 8):=by decide +kernel
 have:=h c.toNat (UInt8.toNat_lt c)
 simpa using this
theorem strC_esc {c : UInt8} (h : c = 40 ∨ c = 41 ∨ c = 92) : strC c = [92,c]:=by
 unfold strC
 rw [if_pos (by rcases h with rfl | rfl | rfl <;> decide)]
theorem strC_oct {c : UInt8} (h : ¬ (c = 40 ∨ c = 41 ∨ c = 92)) (h2 : (c.toNat : Int) < 32 ∨ (126 : Int) < c.toNat) : strC c = [92,48 + c / 64,48 + c / 8 % 8,48 + c % 8]:=by
 unfold strC
 rw [if_neg (by simp;simpa [and_assoc] using h),if_pos]
 rcases h2 with h2 | h2
 · have : c < 32:=by rw [UInt8.lt_iff_toNat_lt];show c.toNat < 32;omega
   simp [this]
 · have : 126 < c:=by rw [UInt8.lt_iff_toNat_lt];show 126 < c.toNat;omega
   simp [this]
theorem strC_own {c : UInt8} (h : ¬ (c = 40 ∨ c = 41 ∨ c = 92)) (h2 : ¬ (c.toNat : Int) < 32) (h3 : ¬ (126 : Int) < c.toNat) : strC c = [c]:=by
 unfold strC
 rw [if_neg (by simp;simpa [and_assoc] using h),if_neg]
 have a1 : ¬ c < 32:=by rw [UInt8.lt_iff_toNat_lt];show ¬ c.toNat < 32;omega
 have a2 : ¬ 126 < c:=by rw [UInt8.lt_iff_toNat_lt];show ¬ 126 < c.toNat;omega
 simp [a1,a2]
theorem str1_in (B : Nat) (l : L) (c : UInt8) (w : World) (h : bldB w B l) (hl : l.length ≤ 1000000000000) (hB : B ≤ w.heap.size) :
   Calls Tryz.prog 233 #[.pointer (some ⟨B,0,none⟩),.int .u8 c.toNat] w fun e w' => e = .returned (.tuple #[]) ∧ bldB w' B (l ++ strC c) ∧ Below B w w':=by
 by_cases hs : c = 40 ∨ c = 41 ∨ c = 92
 · rw [strC_esc hs]
   rcases hs with rfl | rfl | rfl
   · skip
     go_enter Tryz.func233,Tryz.ntmps233
     go_wp2_with fail
     refine (bld_byte B l 92 (by omega) (by omega) w h (by omega) hB).mono ?_
     rintro e w1 ⟨rfl,h1,hb1⟩
     go_wp2_with fail
     refine (bld_byte B _ 40 (by omega) (by omega) w1 h1 (by simp;omega) (Nat.le_trans hB hb1.size)).mono ?_
     rintro e w2 ⟨rfl,h2,hb2⟩
     have HH:=Lh (And.intro h2 (hb1.trans hb2))
     clear h1 h2 hb1 hb2
     go_wp2
     go_end0
     refine ⟨rfl,?_,HH.out.2⟩
     have:=HH.out.1
     rw [List.append_assoc] at this
     exact this
   · skip
     go_enter Tryz.func233,Tryz.ntmps233
     go_wp2_with fail
     refine (bld_byte B l 92 (by omega) (by omega) w h (by omega) hB).mono ?_
     rintro e w1 ⟨rfl,h1,hb1⟩
     go_wp2_with fail
     refine (bld_byte B _ 41 (by omega) (by omega) w1 h1 (by simp;omega) (Nat.le_trans hB hb1.size)).mono ?_
     rintro e w2 ⟨rfl,h2,hb2⟩
     have HH:=Lh (And.intro h2 (hb1.trans hb2))
     clear h1 h2 hb1 hb2
     go_wp2
     go_end0
     refine ⟨rfl,?_,HH.out.2⟩
     have:=HH.out.1
     rw [List.append_assoc] at this
     exact this
   · skip
     go_enter Tryz.func233,Tryz.ntmps233
     go_wp2_with fail
     refine (bld_byte B l 92 (by omega) (by omega) w h (by omega) hB).mono ?_
     rintro e w1 ⟨rfl,h1,hb1⟩
     go_wp2_with fail
     refine (bld_byte B _ 92 (by omega) (by omega) w1 h1 (by simp;omega) (Nat.le_trans hB hb1.size)).mono ?_
     rintro e w2 ⟨rfl,h2,hb2⟩
     have HH:=Lh (And.intro h2 (hb1.trans hb2))
     clear h1 h2 hb1 hb2
     go_wp2
     go_end0
     refine ⟨rfl,?_,HH.out.2⟩
     have:=HH.out.1
     rw [List.append_assoc] at this
     exact this
 · have hs2:=hs
   simp only [not_or] at hs2
   have e40 : ((c.toNat : Int) == 40) = false:=eq_no (n:=40) (by decide) hs2.1
   have e41 : ((c.toNat : Int) == 41) = false:=eq_no (n:=41) (by decide) hs2.2.1
   have e92 : ((c.toNat : Int) == 92) = false:=eq_no (n:=92) (by decide) hs2.2.2
   have hc:=UInt8.toNat_lt c
   by_cases hq : (c.toNat : Int) < 32 ∨ (126 : Int) < c.toNat
   · have HR:=Lh (strC_oct hs hq)
     have HO:=Lh (oct3 c)
     have q64 : IntKind.u8.wrap ((c.toNat : Int) / 64) = (c.toNat : Int) / 64:=IntWalk.u8_in _ ⟨by omega,by omega⟩
     have q8 : IntKind.u8.wrap ((c.toNat : Int) / 8) = (c.toNat : Int) / 8:=IntWalk.u8_in _ ⟨by omega,by omega⟩
     have q1 : IntKind.u8.wrap (c.toNat : Int) = (c.toNat : Int):=IntWalk.u8_in _ ⟨by omega,by omega⟩
     have t64 : ((c.toNat : Int) / 64).tmod 8 = ((c.toNat : Int) / 64) % 8:=Int.tmod_eq_emod_of_nonneg (by omega)
     have t8 : ((c.toNat : Int) / 8).tmod 8 = ((c.toNat : Int) / 8) % 8:=Int.tmod_eq_emod_of_nonneg (by omega)
     have t1 : (c.toNat : Int).tmod 8 = (c.toNat : Int) % 8:=Int.tmod_eq_emod_of_nonneg (by omega)
     have r64 : IntKind.u8.wrap (((c.toNat : Int) / 64) % 8) = ((c.toNat : Int) / 64) % 8:=IntWalk.u8_in _ ⟨by omega,by omega⟩
     have r8 : IntKind.u8.wrap (((c.toNat : Int) / 8) % 8) = ((c.toNat : Int) / 8) % 8:=IntWalk.u8_in _ ⟨by omega,by omega⟩
     have r1 : IntKind.u8.wrap ((c.toNat : Int) % 8) = (c.toNat : Int) % 8:=IntWalk.u8_in _ ⟨by omega,by omega⟩
     have w64 : IntKind.u8.wrap (48 + ((c.toNat : Int) / 64) % 8) = 48 + ((c.toNat : Int) / 64) % 8:=IntWalk.u8_in _ ⟨by omega,by omega⟩
     have w8 : IntKind.u8.wrap (48 + ((c.toNat : Int) / 8) % 8) = 48 + ((c.toNat : Int) / 8) % 8:=IntWalk.u8_in _ ⟨by omega,by omega⟩
     have w1' : IntKind.u8.wrap (48 + (c.toNat : Int) % 8) = 48 + (c.toNat : Int) % 8:=IntWalk.u8_in _ ⟨by omega,by omega⟩
     have dq : decide ((c.toNat : Int) < 32) = true ∨ decide ((c.toNat : Int) < 32) = false ∧ decide ((126 : Int) < (c.toNat : Int)) = true:=by
       by_cases h32 : (c.toNat : Int) < 32
       · exact .inl (decide_eq_true h32)
       · exact .inr ⟨decide_eq_false h32,decide_eq_true (by omega)⟩
     have hi0 : ∀ w : World,(Instr.index 229 (.agg #[.int .u8 64,.int .u8 8,.int .u8 1]) (.int .i64 0)).run Tryz.prog w = .ok (.int .u8 64) w:=fun _ => by kernel_rfl
     have hi1 : ∀ w : World,(Instr.index 229 (.agg #[.int .u8 64,.int .u8 8,.int .u8 1]) (.int .i64 1)).run Tryz.prog w = .ok (.int .u8 8) w:=fun _ => by kernel_rfl
     have hi2 : ∀ w : World,(Instr.index 229 (.agg #[.int .u8 64,.int .u8 8,.int .u8 1]) (.int .i64 2)).run Tryz.prog w = .ok (.int .u8 1) w:=fun _ => by kernel_rfl
     rw [HR.out]
     clear hs hs2 hq
     rcases dq with d32 | ⟨d32,d126⟩
     all_goals
       go_enter Tryz.func233,Tryz.ntmps233
       go_wp2_with fail
       refine (bld_byte B l 92 (by omega) (by omega) w h (by omega) hB).mono ?_
       rintro e w1 ⟨rfl,h1,hb1⟩
       go_wp2
       refine wp_loop_rounds 4 ?_
       rw [rounds_succ]
       go_wp2_with fail
       refine (bld_byte B _ (48 + (c.toNat : Int) / 64 % 8) (by omega) (by omega) w1 h1 (by simp;omega) (Nat.le_trans hB hb1.size)).mono ?_
       rintro e w2 ⟨rfl,h2,hb2⟩
       have hb02:=hb1.trans hb2
       clear h1 hb1 hb2
       go_wp2
       rw [rounds_succ]
       go_wp2_with fail
       refine (bld_byte B _ (48 + (c.toNat : Int) / 8 % 8) (by omega) (by omega) w2 h2 (by simp;omega) (Nat.le_trans hB hb02.size)).mono ?_
       rintro e w3 ⟨rfl,h3,hb3⟩
       have hb03:=hb02.trans hb3
       clear h2 hb02 hb3
       go_wp2
       rw [rounds_succ]
       go_wp2_with fail
       refine (bld_byte B _ (48 + (c.toNat : Int) % 8) (by omega) (by omega) w3 h3 (by simp;omega) (Nat.le_trans hB hb03.size)).mono ?_
       rintro e w4 ⟨rfl,h4,hb4⟩
       have HH:=Lh (And.intro h4 (hb03.trans hb4))
       clear h3 hb03 hb4 h4
       go_wp2
       rw [rounds_succ]
       go_wp2
       go_end0
       refine ⟨rfl,?_,HH.out.2⟩
       have:=HH.out.1
       rw [HO.out.1,HO.out.2.1,HO.out.2.2] at this
       simpa using this
   · simp only [not_or] at hq
     have HR:=Lh (strC_own hs hq.1 hq.2)
     have d32 : decide ((c.toNat : Int) < 32) = false:=decide_eq_false hq.1
     have d126 : decide ((126 : Int) < (c.toNat : Int)) = false:=decide_eq_false hq.2
     rw [HR.out]
     clear hs hs2 hq
     go_enter Tryz.func233,Tryz.ntmps233
     go_wp2_with fail
     refine (bld_byte B l c.toNat (by omega) (by omega) w h (by omega) hB).mono ?_
     rintro e w1 ⟨rfl,h1,hb1⟩
     have HH:=Lh (And.intro h1 hb1)
     clear h1 hb1
     go_wp2
     go_end0
     refine ⟨rfl,?_,HH.out.2⟩
     have:=HH.out.1
     simpa using this
theorem escW_hex (c : UInt8) : 35 :: hexL [c] = [35,hexD (c.toNat / 16),hexD (c.toNat % 16)]:=by
 have h : ∀ n,n < 256 → (35 :: hexL [UInt8.ofNat n] : L) = [35,hexD ((UInt8.ofNat n).toNat / 16),hexD ((UInt8.ofNat n).toNat % 16)]:=by decide +kernel
 have:=h c.toNat (UInt8.toNat_lt c)
 simpa using this
theorem own_one (w : World) (c : UInt8) : ownB (w.alloc (.cells #[.int .u8 c.toNat] 5)) w.heap.size (.slice (some ⟨w.heap.size,0,none⟩) 1 1) [c] :=
 ⟨rfl,.inr ⟨w.heap.size,1,_,rfl,Nat.le_refl _,heap_alloc_new w _,Nat.le_refl _,by unfold maxLen;omega,rfl,rfl⟩⟩
theorem name1_in (B : Nat) (l : L) (c : UInt8) (w : World) (h : bldB w B l) (hl : l.length ≤ 1000000000000) (hB : B ≤ w.heap.size) :
   Calls Tryz.prog 218 #[.pointer (some ⟨B,0,none⟩),.int .u8 c.toNat] w fun e w' => e = .returned (.tuple #[]) ∧ bldB w' B (l ++ escW c) ∧ Below B w w':=by
 have hc:=UInt8.toNat_lt c
 have HD:=Lh (fun W => delim_any c W)
 cases hw : (decide (32 < c) && decide (c ≤ 126) && c != 35 && !delim c)
 · have HR:=Lh (show escW c = 35 :: hexL [c] by unfold escW;rw [hw,if_neg (by decide),escW_hex])
   have HX:=Lh (fun W => chex_in ⟨#[c]⟩ (by show 1 ≤ _;omega) W)
   have hcv:=convB (own_one w c)
   have hsz : ((⟨#[35]⟩ : ByteArray) ++ ⟨(hexL [c]).toArray⟩) = ⟨(35 :: hexL [c]).toArray⟩:=by simp [ByteArray.mk_append_mk]
   have hlx : (hexL [c]).length = 2:=rfl
   obtain ⟨X,hX⟩ : ∃ X,hexL [c] = X:=⟨_,rfl⟩
   rw [show (⟨#[c]⟩ : ByteArray).data.toList = [c] from rfl,hX] at HX
   rw [hX] at HR hsz hlx
   have g1 : ¬ 9223372036854775807 < 1 + X.length:=by omega
   have htests : decide ((32 : Int) < (c.toNat : Int)) = false ∨ decide ((32 : Int) < (c.toNat : Int)) = true ∧ (decide ((c.toNat : Int) ≤ 126) = false ∨ decide ((c.toNat : Int) ≤ 126) = true ∧ (((c.toNat : Int) != 35) = false ∨ ((c.toNat : Int) != 35) = true ∧ delim c = true)):=by
     by_cases a1 : (32 : Int) < (c.toNat : Int)
     · refine .inr ⟨decide_eq_true a1,?_⟩
       by_cases a2 : (c.toNat : Int) ≤ 126
       · refine .inr ⟨decide_eq_true a2,?_⟩
         by_cases a3 : c = 35
         · left;subst a3;rfl
         · right
           have e : ((c.toNat : Int) == 35) = false:=eq_no (n:=35) (by decide) a3
           refine ⟨by rw [bne,e];rfl,?_⟩
           cases hd : delim c
           · exfalso
             have b1 : (32 : UInt8) < c:=by rw [UInt8.lt_iff_toNat_lt];exact Int.ofNat_lt.1 a1
             have b2 : c ≤ 126:=by rw [UInt8.le_iff_toNat_le];exact Int.ofNat_le.1 a2
             simp [b1,b2,a3,hd] at hw
           · rfl
       · exact .inl (decide_eq_false a2)
     · exact .inl (decide_eq_false a1)
   clear hX hw
   rcases htests with t1 | ⟨t1,t2 | ⟨t2,t3 | ⟨t3,t4⟩⟩⟩
   all_goals
     try rw [t4] at HD
     go_enter Tryz.func218,Tryz.ntmps218
     go_wp2_with (first | (go_at_call 208;refine (HD.out _).mono ?_;rintro e w9 ⟨rfl,h9⟩;obtain rfl:=h9.symm) | (go_at_call 219;refine (HX.out _).mono ?_;rintro e w1 ⟨rfl,hb1⟩))
     have hbw1 : Below w.heap.size w w1:=bel
     refine (bld_str B l ⟨(35 :: X).toArray⟩ w1 (bldB_below h hbw1) (by show l.length + (35 :: X).length ≤ _;simp;omega) (Nat.le_trans hB hbw1.size)).mono ?_
     rintro e w2 ⟨rfl,h2,hb2⟩
     have HH:=Lh (And.intro h2 ((hbw1.mono hB).trans hb2))
     clear h2 hb2
     go_wp2
     go_end0
     exact ⟨rfl,by rw [HR.out];exact HH.out.1,HH.out.2⟩
 · have HR:=Lh (show escW c = [c] by unfold escW;rw [hw,if_pos rfl])
   simp only [Bool.and_eq_true,decide_eq_true_eq,bne_iff_ne,ne_eq,Bool.not_eq_true'] at hw
   obtain ⟨⟨⟨h1,h2⟩,h3⟩,h4⟩:=hw
   have d1 : decide ((32 : Int) < (c.toNat : Int)) = true:=by rw [decide_eq_true_eq];rw [UInt8.lt_iff_toNat_lt] at h1;exact Int.ofNat_lt.2 h1
   have d2 : decide ((c.toNat : Int) ≤ 126) = true:=by rw [decide_eq_true_eq];rw [UInt8.le_iff_toNat_le] at h2;exact Int.ofNat_le.2 h2
   have d3 : ((c.toNat : Int) != 35) = true:=by
     have e : ((c.toNat : Int) == 35) = false:=eq_no (n:=35) (by decide) h3
     rw [bne,e];rfl
   rw [h4] at HD
   rw [HR.out]
   clear h1 h2 h3 h4
   go_enter Tryz.func218,Tryz.ntmps218
   go_wp2_with (go_at_call 208;refine (HD.out _).mono ?_;rintro e w9 ⟨rfl,h9⟩;obtain rfl:=h9.symm)
   refine (bld_byte B l c.toNat (by omega) (by omega) w h (by omega) hB).mono ?_
   rintro e w1 ⟨rfl,h1,hb1⟩
   have HH:=Lh (And.intro h1 hb1)
   clear h1 hb1
   go_wp2
   refine bodyPost_ret (results_none rfl _ _ _) rfl ?_
   refine ⟨rfl,?_,HH.out.2⟩
   have:=HH.out.1
   simpa using this
theorem strC_len (c : UInt8) : (strC c).length ≤ 4:=by
 unfold strC
 split
 · simp
 · split <;> simp
theorem escW_len (c : UInt8) : (escW c).length ≤ 4:=by
 unfold escW
 split <;> simp
theorem flat_le {g : UInt8 → L} (hg : ∀ c,(g c).length ≤ 4) : ∀ (l : L),(l.flatMap g).length ≤ 4 * l.length
 | [] => by simp
 | c :: l => by
   have:=flat_le hg l
   have:=hg c
   rw [List.flatMap_cons,List.length_append,List.length_cons];omega
theorem flat_snoc (g : UInt8 → L) (s : ByteArray) (k : Nat) (h : k < s.size) : (s.data.toList.take (k + 1)).flatMap g = (s.data.toList.take k).flatMap g ++ g s[k]:=by
 rw [List.take_succ_eq_append_getElem (by simpa using h),List.flatMap_append]
 simp;rfl
theorem wstr_in (s : ByteArray) (hs : s.size ≤ 100000) (w : World) :
   Calls Tryz.prog 217 #[.string ⟨#[40]⟩,.string s,.string ⟨#[41]⟩,.func (.func 233) #[] #[]] w fun e w' => e = .returned (.string ⟨(strW s.data.toList).toArray⟩) ∧ Below w.heap.size w w':=by
 have hn0:=Lh (show (1 : Int) + (s.size : Int) + 1 = ((1 + s.size + 1 : Nat) : Int) by omega)
 have hn1:=Lh (show (1 : Int) + (s.size : Int) = ((1 + s.size + 0 : Nat) : Int) by omega)
 have hls : s.data.toList.length = s.size:=by simp
 go_enter Tryz.func217,Tryz.ntmps217
 go_wp2_with fail
 first | rw [hn0.out] | rw [hn1.out]
 refine (Tryz.Builder_Grow_fresh w.heap.size w.heap.size (1 + s.size + 1) _ (Nat.le_refl _) (heap_alloc_new w _) (by simp) (by omega)).mono ?_
 rintro e w1 ⟨rfl,h1,hb1⟩
 have H1:=Lh (show bldB w1 w.heap.size [] from .inr h1)
 have hbw1 : Below w.heap.size w w1:=((Below.refl _ w).alloc (Nat.le_refl _) _).trans hb1
 clear h1 hb1
 go_wp2_with fail
 refine (bld_str w.heap.size [] ⟨#[40]⟩ w1 H1.out (by show 0 + _ ≤ _;simp;try decide) hbw1.size).mono ?_
 rintro e w2 ⟨rfl,h2,hb2⟩
 have hbw2:=hbw1.trans hb2
 have H2:=Lh (show bldB w2 w.heap.size ([40] ++ (s.data.toList.take 0).flatMap strC) by simpa using h2)
 clear h2 hb2 hbw1 H1
 go_wp2
 go_loopw [24] (fun i wr => ∃ k : Nat,k ≤ s.size ∧ i = .int .i64 k ∧ bldB wr w.heap.size ([40] ++ (s.data.toList.take k).flatMap strC) ∧ Below w.heap.size w wr) (fun i _ => s.size - (intOf i).toNat)
 case atStart => exact ⟨0,Nat.zero_le _,rfl,H2.out,hbw2⟩
 case round =>
   clear H2 hbw2 hn0 hn1
   obtain ⟨k,hk,rfl,hB,hbr⟩:=hrel
   have hlen : ((s.data.toList.take k).flatMap strC).length ≤ 4 * s.size:=Nat.le_trans (flat_le strC_len _) (by simp;omega)
   by_cases hlt : k < s.size
   · have HSN:=Lh (flat_snoc strC s k hlt)
     go_wp2_with fail
     refine (str1_in w.heap.size _ s[k] wr hB (by rw [List.length_append];simp only [List.length_cons,List.length_nil];omega) hbr.size).mono ?_
     rintro e w3 ⟨rfl,h3,hb3⟩
     have HH:=Lh (And.intro h3 (hbr.trans hb3))
     clear h3 hb3 hB
     go_wp2
     go_roundw
     case rel => exact ⟨k + 1,by omega,by go_num,by rw [HSN.out,← List.append_assoc];exact HH.out.1,HH.out.2⟩
     case measure => simp [intOf];omega
   · obtain rfl : k = s.size:=by omega
     have hB2 : bldB wr w.heap.size ([40] ++ s.data.toList.flatMap strC):=by
       rw [List.take_of_length_le (by omega)] at hB;exact hB
     have hlen2 : (s.data.toList.flatMap strC).length ≤ 4 * s.size:=by rw [List.take_of_length_le (by omega)] at hlen;exact hlen
     clear hB hlen
     go_wp2_with fail
     refine (bld_str w.heap.size _ ⟨#[41]⟩ wr hB2 (by rw [List.length_append];show _ + 1 ≤ _;simp only [List.length_cons,List.length_nil];omega) hbr.size).mono ?_
     rintro e w4 ⟨rfl,h4,hb4⟩
     have hbw4:=hbr.trans hb4
     clear hB2 hb4
     go_wp2_with fail
     refine (bld_get w.heap.size _ w4 h4 hbw4.size).mono ?_
     rintro e w5 ⟨rfl,hb5⟩
     have HBW:=Lh (hbw4.trans hb5)
     clear h4 hb5
     go_wp2
     go_ret
     exact ⟨by simp [strW,nameW],HBW.out⟩
theorem wname_in (s : ByteArray) (hs : s.size ≤ 100000) (w : World) :
   Calls Tryz.prog 217 #[.string ⟨#[47]⟩,.string s,.string ⟨#[]⟩,.func (.func 218) #[] #[]] w fun e w' => e = .returned (.string ⟨(nameW s.data.toList).toArray⟩) ∧ Below w.heap.size w w':=by
 have hn0:=Lh (show (1 : Int) + (s.size : Int) + 0 = ((1 + s.size + 0 : Nat) : Int) by omega)
 have hn1:=Lh (show (1 : Int) + (s.size : Int) = ((1 + s.size + 0 : Nat) : Int) by omega)
 have hls : s.data.toList.length = s.size:=by simp
 go_enter Tryz.func217,Tryz.ntmps217
 go_wp2_with fail
 first | rw [hn0.out] | rw [hn1.out]
 refine (Tryz.Builder_Grow_fresh w.heap.size w.heap.size (1 + s.size + 0) _ (Nat.le_refl _) (heap_alloc_new w _) (by simp) (by omega)).mono ?_
 rintro e w1 ⟨rfl,h1,hb1⟩
 have H1:=Lh (show bldB w1 w.heap.size [] from .inr h1)
 have hbw1 : Below w.heap.size w w1:=((Below.refl _ w).alloc (Nat.le_refl _) _).trans hb1
 clear h1 hb1
 go_wp2_with fail
 refine (bld_str w.heap.size [] ⟨#[47]⟩ w1 H1.out (by show 0 + _ ≤ _;simp;try decide) hbw1.size).mono ?_
 rintro e w2 ⟨rfl,h2,hb2⟩
 have hbw2:=hbw1.trans hb2
 have H2:=Lh (show bldB w2 w.heap.size ([47] ++ (s.data.toList.take 0).flatMap escW) by simpa using h2)
 clear h2 hb2 hbw1 H1
 go_wp2
 go_loopw [24] (fun i wr => ∃ k : Nat,k ≤ s.size ∧ i = .int .i64 k ∧ bldB wr w.heap.size ([47] ++ (s.data.toList.take k).flatMap escW) ∧ Below w.heap.size w wr) (fun i _ => s.size - (intOf i).toNat)
 case atStart => exact ⟨0,Nat.zero_le _,rfl,H2.out,hbw2⟩
 case round =>
   clear H2 hbw2 hn0 hn1
   obtain ⟨k,hk,rfl,hB,hbr⟩:=hrel
   have hlen : ((s.data.toList.take k).flatMap escW).length ≤ 4 * s.size:=Nat.le_trans (flat_le escW_len _) (by simp;omega)
   by_cases hlt : k < s.size
   · have HSN:=Lh (flat_snoc escW s k hlt)
     go_wp2_with fail
     refine (name1_in w.heap.size _ s[k] wr hB (by rw [List.length_append];simp only [List.length_cons,List.length_nil];omega) hbr.size).mono ?_
     rintro e w3 ⟨rfl,h3,hb3⟩
     have HH:=Lh (And.intro h3 (hbr.trans hb3))
     clear h3 hb3 hB
     go_wp2
     go_roundw
     case rel => exact ⟨k + 1,by omega,by go_num,by rw [HSN.out,← List.append_assoc];exact HH.out.1,HH.out.2⟩
     case measure => simp [intOf];omega
   · obtain rfl : k = s.size:=by omega
     have hB2 : bldB wr w.heap.size ([47] ++ s.data.toList.flatMap escW):=by
       rw [List.take_of_length_le (by omega)] at hB;exact hB
     have hlen2 : (s.data.toList.flatMap escW).length ≤ 4 * s.size:=by rw [List.take_of_length_le (by omega)] at hlen;exact hlen
     clear hB hlen
     go_wp2_with fail
     refine (bld_str w.heap.size _ ⟨#[]⟩ wr hB2 (by rw [List.length_append];show _ + 0 ≤ _;simp only [List.length_cons,List.length_nil];omega) hbr.size).mono ?_
     rintro e w4 ⟨rfl,h4,hb4⟩
     have hbw4:=hbr.trans hb4
     clear hB2 hb4
     go_wp2_with fail
     refine (bld_get w.heap.size _ w4 h4 hbw4.size).mono ?_
     rintro e w5 ⟨rfl,hb5⟩
     have HBW:=Lh (hbw4.trans hb5)
     clear h4 hb5
     go_wp2
     go_ret
     exact ⟨by simp [strW,nameW],HBW.out⟩
theorem joinW_cons (c : UInt8) (x : UInt8) (p : L) (l : List L) : joinW c ((x :: p) :: l) = (if (regular c || c == 47) && regular x then [32] else []) ++ (x :: p) ++ joinW ((x :: p).getLast (by simp)) l:=rfl
theorem join_in (S : Nat → Prop) (v : Value) (ps : List L) (w : World) (hK : KeysAt S w v ps) (hS : ∀ b, S b → b < w.heap.size) (hn : ps.length ≤ 100000000) (hl : (joinW 32 ps).length ≤ 1000000000) (hx : ∀ x ∈ ps, x.length ≤ 1000000000) :
   Calls Tryz.prog 130 #[v] w fun e w' => e = .returned (.string ⟨(joinW 32 ps).toArray⟩) ∧ Below w.heap.size w w':=by
 obtain ⟨R,hR⟩ : ∃ R,joinW 32 ps = R:=⟨_,rfl⟩
 rw [hR] at hl ⊢
 obtain ⟨p,cp,hv⟩ : ∃ p c,v = .slice p ps.length c:=by
   rcases hK with ⟨e,p,c,h⟩ | ⟨b,o,c,h,_⟩
   · exact ⟨_,_,by rw [e];exact h⟩
   · exact ⟨_,_,h⟩
 subst hv
 obtain ⟨n,hn1⟩ : ∃ n,ps.length = n:=⟨_,rfl⟩
 have HK:=Lh (And.intro hK (And.intro hS hx))
 have HN:=Lh hn1
 have HR:=Lh (show ([] : L) ++ joinW 32 (ps.drop 0) = R from hR)
 have HL:=Lh hl
 rw [hn1] at hn ⊢
 clear hK hS hn1 hR hl hx
 go_enter Tryz.func130,Tryz.ntmps130
 go_wp2
 go_loopw [4,9] (fun c i wr => ∃ (k : Nat) (lc : UInt8) (acc : L),k ≤ n ∧ i = .int .i64 k ∧ c = .int .u8 lc.toNat ∧ bldB wr w.heap.size acc ∧ Below w.heap.size w wr ∧ Hid (acc ++ joinW lc (ps.drop k) = R)) (fun _ i _ => n - (intOf i).toNat)
 case atStart => exact ⟨0,32,[],Nat.zero_le _,rfl,rfl,bldB_fresh w,(Below.refl _ _).alloc (Nat.le_refl _) _,HR⟩
 case round =>
   clear HR
   obtain ⟨k,c,acc,hk,rfl,rfl,hB,hbr,HA⟩:=hrel
   by_cases hlk : k < n
   · have hKr : KeysAt S wr (.slice p n cp) ps := by
       have:=HK.out.1.kept (fun b h => hbr.block b (HK.out.2.1 b h));rw [HN.out] at this;exact this
     obtain ⟨b,off,rfl⟩ : ∃ b off,p = some ⟨b,off,none⟩:=by
       rcases hKr with ⟨e,_⟩ | ⟨b,off,c,e,_⟩
       · have:=HN.out;rw [e] at this;simp at this;omega
       · cases e;exact ⟨_,_,rfl⟩
     obtain ⟨sb,g0⟩:=key_at hKr HN.out k hlk
     have hk' : k < ps.length:=by rw [HN.out];exact hlk
     have hdr : ps.drop k = ps[k] :: ps.drop (k + 1):=List.drop_eq_getElem_cons hk'
     have hgd : ps.getD k [] = ps[k]:=by rw [List.getD_eq_getElem?_getD,List.getElem?_eq_getElem hk'];rfl
     have hxl:=HK.out.2.2 _ (List.getElem_mem hk')
     have HJ0:=HA.out
     rw [hdr] at HJ0
     rw [hgd] at g0
     obtain ⟨x,hx⟩ : ∃ x,ps[k] = x:=⟨_,rfl⟩
     rw [hx] at HJ0 g0 hxl
     clear hKr hdr hgd hx
     cases x with
     | nil =>
       have HJ:=Lh (show acc ++ joinW c (ps.drop (k + 1)) = R from HJ0)
       clear HJ0
       go_wp2
       go_roundw
       case rel => exact ⟨k + 1,c,acc,by omega,by go_num,rfl,hB,hbr,HJ⟩
       case measure => simp [intOf];omega
     | cons y q =>
       rw [joinW_cons] at HJ0
       obtain ⟨s,hs⟩ : ∃ s : ByteArray,s = ⟨(y :: q).toArray⟩:=⟨_,rfl⟩
       have hsl : s.data.toList = y :: q:=by rw [hs]
       have hsz : 0 < s.size:=by rw [hs];show 0 < (y :: q).length;simp
       have hs0 : s[0] = y:=by subst hs;rfl
       have hsz2 : s.size ≤ 1000000000:=by rw [hs];exact hxl
       have hlast : (y :: q).getLast (by simp) = s[s.size - 1]:=by
         subst hs
         rw [List.getLast_eq_getElem];rfl
       rw [hlast,← hsl] at HJ0
       rw [← hs] at g0
       have HJ:=Lh HJ0
       have HLN:=Lh (show acc.length + s.size + 1 ≤ 1000000002 by
         have h1:=HL.out
         rw [← HJ0] at h1
         have h2 : s.data.toList.length = s.size:=by simp
         simp only [List.length_append] at h1
         omega)
       have hne : (s.toList == ([] : L)) = false:=by rw [ByteArray.toList_eq,hsl];rfl
       have hwj : IntKind.i64.wrap ((s.size : Int) - 1) = (s.size : Int) - 1:=IntWalk.i64_in _ (by omega)
       have HRC:=Lh (fun W => regular_any c W)
       have HRX:=Lh (fun W => regular_any y W)
       clear HJ0 hlast hsl hs hxl
       cases h1 : regular c
       · rw [h1] at HRC
         cases h3 : (c == 47)
         · have e47 : ((c.toNat : Int) == 47) = false:=eq_no (n:=47) (by decide) (by simpa using h3)
           have hcond : ((regular c || c == 47) && regular y) = false:=by rw [h1,h3];rfl
           go_wp2_with (go_at_call 172;first | (with_reducible refine (HRC.out _).mono ?_;rintro e w9 ⟨rfl,h9⟩;obtain rfl:=h9.symm) | (with_reducible refine (HRX.out _).mono ?_;rintro e w9 ⟨rfl,h9⟩;obtain rfl:=h9.symm))
           obtain ⟨w4,hw4⟩ : ∃ w4,wr = w4:=⟨_,rfl⟩
           have hbw4 : Below w.heap.size w w4:=by rw [← hw4];exact hbr
           rw [hw4] at hB ⊢
           clear hw4
           have HRR:=Lh (show acc ++ s.data.toList ++ joinW s[s.size - 1] (ps.drop (k + 1)) = R by rw [← HJ.out,hcond,if_neg (by decide)];simp)
           go_wp2_with fail
           refine (bld_str w.heap.size _ s w4 hB (by have:=HLN.out;(try simp only [List.length_append,List.length_cons,List.length_nil]);omega) hbw4.size).mono ?_
           rintro e w5 ⟨rfl,h5,hb5⟩
           have HH:=Lh (And.intro h5 (hbw4.trans hb5))
           clear h5 hb5
           go_wp2
           go_roundw
           case rel => exact ⟨k + 1,s[s.size - 1],_,by omega,by go_num,rfl,HH.out.1,HH.out.2,Lh (by first | exact HRR.out | (rw [← HRR.out];simp))⟩
           case measure => simp [intOf];omega
         · have e47 : ((c.toNat : Int) == 47) = true:=eq_yes (n:=47) (by decide) (by simpa using h3)
           cases h2 : regular y
           · rw [h2] at HRX
             have hcond : ((regular c || c == 47) && regular y) = false:=by rw [h1,h3,h2];rfl
             go_wp2_with (go_at_call 172;first | (with_reducible refine (HRC.out _).mono ?_;rintro e w9 ⟨rfl,h9⟩;obtain rfl:=h9.symm) | (with_reducible refine (HRX.out _).mono ?_;rintro e w9 ⟨rfl,h9⟩;obtain rfl:=h9.symm))
             obtain ⟨w4,hw4⟩ : ∃ w4,wr = w4:=⟨_,rfl⟩
             have hbw4 : Below w.heap.size w w4:=by rw [← hw4];exact hbr
             rw [hw4] at hB ⊢
             clear hw4
             have HRR:=Lh (show acc ++ s.data.toList ++ joinW s[s.size - 1] (ps.drop (k + 1)) = R by rw [← HJ.out,hcond,if_neg (by decide)];simp)
             go_wp2_with fail
             refine (bld_str w.heap.size _ s w4 hB (by have:=HLN.out;(try simp only [List.length_append,List.length_cons,List.length_nil]);omega) hbw4.size).mono ?_
             rintro e w5 ⟨rfl,h5,hb5⟩
             have HH:=Lh (And.intro h5 (hbw4.trans hb5))
             clear h5 hb5
             go_wp2
             go_roundw
             case rel => exact ⟨k + 1,s[s.size - 1],_,by omega,by go_num,rfl,HH.out.1,HH.out.2,Lh (by first | exact HRR.out | (rw [← HRR.out];simp))⟩
             case measure => simp [intOf];omega
           · rw [h2] at HRX
             have hcond : ((regular c || c == 47) && regular y) = true:=by rw [h1,h3,h2];rfl
             go_wp2_with (go_at_call 172;first | (with_reducible refine (HRC.out _).mono ?_;rintro e w9 ⟨rfl,h9⟩;obtain rfl:=h9.symm) | (with_reducible refine (HRX.out _).mono ?_;rintro e w9 ⟨rfl,h9⟩;obtain rfl:=h9.symm))
             refine (bld_byte w.heap.size acc 32 (by omega) (by omega) wr hB (by have:=HLN.out;omega) hbr.size).mono ?_
             rintro e w4 ⟨rfl,h4,hb4⟩
             have hbw4:=hbr.trans hb4
             clear hb4 hB
             have HRR:=Lh (show acc ++ [UInt8.ofNat (32 : Int).toNat] ++ s.data.toList ++ joinW s[s.size - 1] (ps.drop (k + 1)) = R by rw [← HJ.out,hcond,if_pos rfl];simp)
             go_wp2_with fail
             refine (bld_str w.heap.size _ s w4 h4 (by have:=HLN.out;(try simp only [List.length_append,List.length_cons,List.length_nil]);omega) hbw4.size).mono ?_
             rintro e w5 ⟨rfl,h5,hb5⟩
             have HH:=Lh (And.intro h5 (hbw4.trans hb5))
             clear h5 hb5
             go_wp2
             go_roundw
             case rel => exact ⟨k + 1,s[s.size - 1],_,by omega,by go_num,rfl,HH.out.1,HH.out.2,Lh (by first | exact HRR.out | (rw [← HRR.out];simp))⟩
             case measure => simp [intOf];omega
       · rw [h1] at HRC
         cases h2 : regular y
         · rw [h2] at HRX
           have hcond : ((regular c || c == 47) && regular y) = false:=by rw [h1,h2];rfl
           go_wp2_with (go_at_call 172;first | (with_reducible refine (HRC.out _).mono ?_;rintro e w9 ⟨rfl,h9⟩;obtain rfl:=h9.symm) | (with_reducible refine (HRX.out _).mono ?_;rintro e w9 ⟨rfl,h9⟩;obtain rfl:=h9.symm))
           obtain ⟨w4,hw4⟩ : ∃ w4,wr = w4:=⟨_,rfl⟩
           have hbw4 : Below w.heap.size w w4:=by rw [← hw4];exact hbr
           rw [hw4] at hB ⊢
           clear hw4
           have HRR:=Lh (show acc ++ s.data.toList ++ joinW s[s.size - 1] (ps.drop (k + 1)) = R by rw [← HJ.out,hcond,if_neg (by decide)];simp)
           go_wp2_with fail
           refine (bld_str w.heap.size _ s w4 hB (by have:=HLN.out;(try simp only [List.length_append,List.length_cons,List.length_nil]);omega) hbw4.size).mono ?_
           rintro e w5 ⟨rfl,h5,hb5⟩
           have HH:=Lh (And.intro h5 (hbw4.trans hb5))
           clear h5 hb5
           go_wp2
           go_roundw
           case rel => exact ⟨k + 1,s[s.size - 1],_,by omega,by go_num,rfl,HH.out.1,HH.out.2,Lh (by first | exact HRR.out | (rw [← HRR.out];simp))⟩
           case measure => simp [intOf];omega
         · rw [h2] at HRX
           have hcond : ((regular c || c == 47) && regular y) = true:=by rw [h1,h2];rfl
           go_wp2_with (go_at_call 172;first | (with_reducible refine (HRC.out _).mono ?_;rintro e w9 ⟨rfl,h9⟩;obtain rfl:=h9.symm) | (with_reducible refine (HRX.out _).mono ?_;rintro e w9 ⟨rfl,h9⟩;obtain rfl:=h9.symm))
           refine (bld_byte w.heap.size acc 32 (by omega) (by omega) wr hB (by have:=HLN.out;omega) hbr.size).mono ?_
           rintro e w4 ⟨rfl,h4,hb4⟩
           have hbw4:=hbr.trans hb4
           clear hb4 hB
           have HRR:=Lh (show acc ++ [UInt8.ofNat (32 : Int).toNat] ++ s.data.toList ++ joinW s[s.size - 1] (ps.drop (k + 1)) = R by rw [← HJ.out,hcond,if_pos rfl];simp)
           go_wp2_with fail
           refine (bld_str w.heap.size _ s w4 h4 (by have:=HLN.out;(try simp only [List.length_append,List.length_cons,List.length_nil]);omega) hbw4.size).mono ?_
           rintro e w5 ⟨rfl,h5,hb5⟩
           have HH:=Lh (And.intro h5 (hbw4.trans hb5))
           clear h5 hb5
           go_wp2
           go_roundw
           case rel => exact ⟨k + 1,s[s.size - 1],_,by omega,by go_num,rfl,HH.out.1,HH.out.2,Lh (by first | exact HRR.out | (rw [← HRR.out];simp))⟩
           case measure => simp [intOf];omega
   · have HA2 := Lib.hid (show acc = R by
       rw [← HA.out,List.drop_eq_nil_of_le (by rw [HN.out];omega)];simp [joinW])
     go_wp2_with fail
     refine (bld_get w.heap.size _ wr hB hbr.size).mono ?_
     rintro e w5 ⟨rfl,hb5⟩
     have HBW:=Lh (hbr.trans hb5)
     clear hB hb5
     go_wp2
     go_ret
     exact ⟨by rw [HA2.out];rfl,HBW.out⟩
theorem pString_in (s : L) (hs : s.length ≤ 32767) (w : World) :
   Calls Tryz.prog 216 #[.string ⟨s.toArray⟩] w fun e w' => e = .returned (.tuple #[.string ⟨(strW s).toArray⟩,.int .i64 0]) ∧ Below w.heap.size w w':=by
 have HW:=Lh (fun W => wstr_in ⟨s.toArray⟩ (by show s.length ≤ _;omega) W)
 have d0 : decide ((32767 : Int) < (s.length : Int)) = false:=by simp;omega
 go_enter Tryz.func216,Tryz.ntmps216
 go_wp2_with fail
 refine (HW.out _).mono ?_
 rintro e w1 ⟨rfl,hb1⟩
 go_wp2
 go_ret2
 exact ⟨by simp,hb1⟩
theorem pName_in (s : L) (hs : nameB s = true) (w : World) :
   Calls Tryz.prog 194 #[.string ⟨s.toArray⟩] w fun e w' => e = .returned (.tuple #[.string ⟨(nameW s).toArray⟩,.int .i64 0]) ∧ Below w.heap.size w w':=by
 have h2 : s.all (· != 0) = true ∧ s.length ≤ 127:=by unfold nameB at hs;simpa using hs
 have HW:=Lh (fun W => wname_in ⟨s.toArray⟩ (by show s.length ≤ _;omega) W)
 have d0 : decide ((127 : Int) < (s.length : Int)) = false:=by simp;omega
 have hz : Lib.indexByte s 0 < 0:=by
   have:=zero_ix s
   rw [h2.1] at this
   simpa using this
 have d1 : decide ((0 : Int) ≤ Lib.indexByte s 0) = false:=by simp;omega
 clear hs h2
 go_enter Tryz.func194,Tryz.ntmps194
 go_wp2_with (go_at_call 211;refine (Tryz.strings_IndexByte _ _ _).mono ?_;rintro e w' ⟨rfl,rfl⟩)
 refine (HW.out _).mono ?_
 rintro e w1 ⟨rfl,hb1⟩
 go_wp2
 go_ret2
 exact ⟨by simp,hb1⟩
def rowF : Nat → Nat → Nat → L
 | 0,_,_ => []
 | f + 1,m,need => if m = 0 ∧ need = 0 then [] else rowF f (m / 10) (need - 1) ++ [UInt8.ofNat (48 + m % 10)]
theorem frow_in (n least : Nat) (hn : n < 10 ^ 18) (hl : least ≤ 20) (w : World) :
   Calls Tryz.prog 243 #[.int .i64 n,.int .i64 least] w fun e w' => e = .returned (.string ⟨(rowF 30 n least).toArray⟩) ∧ Below w.heap.size w w':=by
 obtain ⟨R,hR⟩ : ∃ R,rowF 30 n least = R:=⟨_,rfl⟩
 rw [hR]
 have HR:=Lh (show rowF 30 n (least - ([] : L).length) ++ [] = R by simpa using hR)
 clear hR
 go_enter Tryz.func243,Tryz.ntmps243
 go_wp2
 go_loopg [0,5] 30 (fun f a b wr => ∃ (m : Nat) (acc : L),a = .int .i64 m ∧ b = .string ⟨acc.toArray⟩ ∧ m < 10 ^ 18 ∧ acc.length ≤ 30 ∧ acc.length + f = 30 ∧ Hid (m < 10 ^ f ∧ least - acc.length ≤ f ∧ rowF f m (least - acc.length) ++ acc = R) ∧ Below w.heap.size w wr)
 case atStart => exact ⟨n,[],rfl,rfl,hn,by decide,rfl,Lh ⟨Nat.lt_of_lt_of_le hn (by decide),by simp;omega,HR.out⟩,Below.refl _ _⟩
 case round =>
   clear HR
   obtain ⟨m,acc,rfl,rfl,hm,hal,haf,HA,hbr⟩:=hrel
   by_cases hgo : 0 < m ∨ acc.length < least
   · obtain ⟨f, rfl⟩ : ∃ f, gk = f + 1 := by
       refine ⟨gk - 1,?_⟩
       have h1:=HA.out.1
       have h2:=HA.out.2.1
       cases gk with
       | zero => simp at h1;omega
       | succ f => rfl
     have hdig : (UInt8.ofNat (48 + m % 10)).toNat = 48 + m % 10:=by simp only [UInt8.toNat_ofNat'];omega
     obtain ⟨c,hc⟩ : ∃ c,UInt8.ofNat (48 + m % 10) = c:=⟨_,rfl⟩
     rw [hc] at hdig
     have HX:=Lh (show m / 10 < 10 ^ f ∧ least - (c :: acc).length ≤ f ∧ rowF f (m / 10) (least - (c :: acc).length) ++ (c :: acc) = R by
       have h3:=HA.out.2.2
       rw [rowF,if_neg (by omega),hc] at h3
       refine ⟨?_,by have:=HA.out.2.1;simp;omega,?_⟩
       · have:=HA.out.1
         rw [Nat.pow_succ] at this
         omega
       · rw [← h3,show least - (c :: acc).length = least - acc.length - 1 by simp;omega];simp)
     have hcv:=convB (own_one wr c)
     rw [show ((c.toNat : Nat) : Int) = 48 + (m : Int) % 10 by omega] at hcv
     have hcat : ((⟨#[c]⟩ : ByteArray) ++ ⟨acc.toArray⟩) = ⟨(c :: acc).toArray⟩:=by simp [ByteArray.mk_append_mk]
     have g1 : ¬ 9223372036854775807 < 1 + acc.length:=by omega
     have q0 : (m : Int).tmod 10 = (m : Int) % 10:=Int.tmod_eq_emod_of_nonneg (by omega)
     have q1 : IntKind.i64.wrap ((m : Int) % 10) = (m : Int) % 10:=IntWalk.i64_in _ (by omega)
     have q2 : IntKind.i64.wrap (48 + (m : Int) % 10) = 48 + (m : Int) % 10:=IntWalk.i64_in _ (by omega)
     have q3 : IntKind.u8.wrap (48 + (m : Int) % 10) = 48 + (m : Int) % 10:=IntWalk.u8_in _ ⟨by omega,by omega⟩
     have q4 : IntKind.i64.wrap ((m : Int) / 10) = (m : Int) / 10:=IntWalk.i64_in _ (by omega)
     have hm10 : ((m : Int) / 10) = ((m / 10 : Nat) : Int):=by omega
     have HM:=Lh hm10
     have HGO:=Lh hgo
     clear hm10 hgo HA
     by_cases hm0 : m = 0
     · subst hm0
       have d1 : decide (acc.length < least) = true:=by have:=HGO.out;rw [decide_eq_true_eq];omega
       obtain rfl : c = 48:=hc.symm
       rw [show (48 + ((0 : Nat) : Int) % 10) = 48 from rfl] at hcv
       clear q0 q1 q2 q3 q4 hdig hc
       go_wp2
       go_roundg f
       case measure => omega
       case rel => exact ⟨0,48 :: acc,by first | rfl | simp,by first | rfl | simp,by omega,by simp;omega,by simp;omega,HX,hbr.alloc hbr.size _⟩
     · have d0 : decide (0 < m) = true:=by rw [decide_eq_true_eq];omega
       have d00 : 0 < m:=by omega
       clear hc
       go_wp2
       go_roundg f
       case measure => omega
       case rel => exact ⟨m / 10,c :: acc,by first | rfl | (rw [← HM.out]) | simp,by first | rfl | simp,by omega,by simp;omega,by simp;omega,HX,hbr.alloc hbr.size _⟩
   · obtain rfl : m = 0:=by omega
     have d1 : decide (acc.length < least) = false:=by rw [decide_eq_false_iff_not];omega
     have HX:=Lh (show acc = R by
       have h3:=HA.out.2.2
       cases gk with
       | zero => simpa [rowF] using h3
       | succ f => rw [rowF,if_pos (by omega)] at h3;simpa using h3)
     clear hgo HA
     go_wp2
     go_ret
     exact ⟨by rw [← HX.out];rfl,hbr⟩
theorem rowF_zero : ∀ (f m : Nat),m < 10 ^ f → rowF f m 0 = if m = 0 then [] else digU m
 | 0,m,h => by simp at h;simp [rowF,h]
 | f + 1,m,h => by
   rw [rowF]
   by_cases h0 : m = 0
   · rw [if_pos ⟨h0,rfl⟩,if_pos h0]
   · rw [if_neg (by simp [h0]),if_neg h0,rowF_zero f (m / 10) (by rw [Nat.pow_succ] at h;omega)]
     conv => rhs;unfold digU
     by_cases h10 : m < 10
     · rw [if_pos h10,if_pos (by omega),List.nil_append,Nat.mod_eq_of_lt h10]
     · rw [if_neg h10,if_neg (by omega)]
theorem rowF_one (m : Nat) (h : m < 10 ^ 18) : rowF 30 m 1 = digU m:=by
 rw [rowF,if_neg (by simp),rowF_zero 29 (m / 10) (Nat.lt_of_le_of_lt (Nat.div_le_self _ _) (Nat.lt_trans h (by decide)))]
 conv => rhs;unfold digU
 by_cases h10 : m < 10
 · rw [if_pos h10,if_pos (by omega),List.nil_append,Nat.mod_eq_of_lt h10]
 · rw [if_neg h10,if_neg (by omega)]
theorem rowF_four (m : Nat) (h : m < 10000) : rowF 30 m 4 = [UInt8.ofNat (48 + m / 1000 % 10),UInt8.ofNat (48 + m / 100 % 10),UInt8.ofNat (48 + m / 10 % 10),UInt8.ofNat (48 + m % 10)]:=by
 rw [rowF,if_neg (by simp),rowF,if_neg (by simp),rowF,if_neg (by simp),rowF,if_neg (by simp),rowF,if_pos (by omega)]
 rw [show m / 10 / 10 = m / 100 by omega,show m / 100 / 10 = m / 1000 by omega]
 rfl
theorem dig_zero (k : Nat) (h : k < 10) : ((UInt8.ofNat (48 + k)) == (48 : UInt8)) = decide (k = 0):=by
 have e : (UInt8.ofNat (48 + k)).toNat = 48 + k:=by simp only [UInt8.toNat_ofNat'];omega
 by_cases h0 : k = 0
 · subst h0;rfl
 · rw [decide_eq_false h0,beq_eq_false_iff_ne]
   intro hh
   have:=congrArg UInt8.toNat hh
   rw [e] at this
   simp at this
   omega
theorem trim_four (a b c d : Nat) (ha : a < 10) (hb : b < 10) (hc : c < 10) (hd : d < 10) : trim4 a b c d = if Lib.trimRightB [UInt8.ofNat (48 + a),UInt8.ofNat (48 + b),UInt8.ofNat (48 + c),UInt8.ofNat (48 + d)] 48 = [] then [48] else Lib.trimRightB [UInt8.ofNat (48 + a),UInt8.ofNat (48 + b),UInt8.ofNat (48 + c),UInt8.ofNat (48 + d)] 48:=by
 replace ha:=dig_zero a ha
 replace hb:=dig_zero b hb
 replace hc:=dig_zero c hc
 replace hd:=dig_zero d hd
 have za : a = 0 → UInt8.ofNat (48 + a) = 48:=fun h => by subst h;rfl
 unfold trim4 Lib.trimRightB
 generalize UInt8.ofNat (48 + a) = A at *
 generalize UInt8.ofNat (48 + b) = B at *
 generalize UInt8.ofNat (48 + c) = C at *
 generalize UInt8.ofNat (48 + d) = D at *
 by_cases d0 : d = 0
 · by_cases c0 : c = 0
   · by_cases b0 : b = 0
     · by_cases a0 : a = 0
       · simp [d0,c0,b0,a0,ha,hb,hc,hd,List.dropWhile,za a0]
       · simp [d0,c0,b0,a0,ha,hb,hc,hd,List.dropWhile]
     · simp [d0,c0,b0,ha,hb,hc,hd,List.dropWhile]
   · simp [d0,c0,ha,hb,hc,hd,List.dropWhile]
 · simp [d0,hd,List.dropWhile]
theorem trim_frac (m : Nat) (h : m < 10000) : fracT m = if Lib.trimRightB (rowF 30 m 4) 48 = [] then [48] else Lib.trimRightB (rowF 30 m 4) 48:=by
 rw [rowF_four m h]
 exact trim_four _ _ _ _ (by omega) (by omega) (by omega) (by omega)
theorem fracT_mod (k : Nat) : fracT (k % 10000) = fracT k:=by
 unfold fracT
 rw [show k % 10000 / 1000 % 10 = k / 1000 % 10 by omega,show k % 10000 / 100 % 10 = k / 100 % 10 by omega,show k % 10000 / 10 % 10 = k / 10 % 10 by omega,show k % 10000 % 10 = k % 10 by omega]
theorem fwithin_in (n : Int) (h1 : -1073741824 ≤ n) (h2 : n ≤ 1073741824) (w : World) :
   Calls Tryz.prog 242 #[.int .i64 n] w fun e w' => e = .returned (.bool true) ∧ w' = w:=by
 have d0 : decide (-1073741824 ≤ n) = true:=decide_eq_true h1
 have d1 : decide (n ≤ 1073741824) = true:=decide_eq_true h2
 clear h1 h2
 go_enter Tryz.func242,Tryz.ntmps242
 go_wp2
 go_ret
 exact ⟨rfl,rfl⟩
theorem ftext_in (n : Int) (h1 : -1073741824 ≤ n) (h2 : n ≤ 1073741824) (w : World) :
   Calls Tryz.prog 232 #[.int .i64 n] w fun e w' => e = .returned (.string ⟨(realT n).toArray⟩) ∧ Below w.heap.size w w':=by
 obtain ⟨k,hk⟩ : ∃ k,n.natAbs = k:=⟨_,rfl⟩
 have HW:=Lh (fun W => fwithin_in n h1 h2 W)
 have HA : Hid (∀ W,Calls Tryz.prog 243 #[.int .i64 ((k / 10000 : Nat) : Int),.int .i64 1] W fun e w' => e = .returned (.string ⟨(rowF 30 (k / 10000) 1).toArray⟩) ∧ Below W.heap.size W w'):=Lh (fun W => frow_in (k / 10000) 1 (Nat.lt_of_lt_of_le (by omega : k / 10000 < 1000000) (by decide)) (by decide) W)
 have HB : Hid (∀ W,Calls Tryz.prog 243 #[.int .i64 ((k % 10000 : Nat) : Int),.int .i64 4] W fun e w' => e = .returned (.string ⟨(rowF 30 (k % 10000) 4).toArray⟩) ∧ Below W.heap.size W w'):=Lh (fun W => frow_in (k % 10000) 4 (Nat.lt_of_lt_of_le (by omega : k % 10000 < 1000000) (by decide)) (by decide) W)
 rw [rowF_one _ (Nat.lt_of_lt_of_le (by omega : k / 10000 < 1000000) (by decide))] at HA
 obtain ⟨b0,b1,b2,b3,hB⟩ : ∃ b0 b1 b2 b3,rowF 30 (k % 10000) 4 = [b0,b1,b2,b3]:=⟨_,_,_,_,rowF_four _ (by omega)⟩
 have HF : Hid (realU k = digU (k / 10000) ++ 46 :: (if Lib.trimRightB [b0,b1,b2,b3] 48 = [] then [48] else Lib.trimRightB [b0,b1,b2,b3] 48)):=Lh (by
   unfold realU
   rw [← fracT_mod,trim_frac _ (by omega),hB])
 have HC:=Lh (fun W => Tryz.strings_TrimRight_one ⟨#[b0,b1,b2,b3]⟩ 48 (by decide) W (by show 4 ≤ _;omega))
 rw [show (⟨#[b0,b1,b2,b3]⟩ : ByteArray).data.toList = [b0,b1,b2,b3] from rfl] at HC
 rw [hB] at HB
 have hT4 : (Lib.trimRightB [b0,b1,b2,b3] 48).length ≤ 4:=by
   unfold Lib.trimRightB
   rw [List.length_reverse]
   exact (List.dropWhile_sublist _).length_le
 obtain ⟨T,hT⟩ : ∃ T,Lib.trimRightB [b0,b1,b2,b3] 48 = T:=⟨_,rfl⟩
 rw [hT] at HF HC hT4
 clear hT hB
 have hAl : (digU (k / 10000)).length ≤ 20:=Nat.le_trans (digU_len (k / 10000) 7 (Nat.lt_of_lt_of_le (by omega : k / 10000 < 1000000) (by decide))) (by decide)
 obtain ⟨A,hA⟩ : ∃ A,digU (k / 10000) = A:=⟨_,rfl⟩
 rw [hA] at HF HA hAl
 clear hA
 obtain ⟨V,hV⟩ : ∃ V,(if T = [] then [48] else T) = V:=⟨_,rfl⟩
 rw [hV] at HF
 have hkq : k / 10000 < 1000000:=by omega
 have hkr : k % 10000 < 10000:=by omega
 have q0 : (k : Int).tdiv 10000 = ((k / 10000 : Nat) : Int):=by rw [Int.tdiv_eq_ediv_of_nonneg (by omega)];omega
 have q1 : (k : Int).tmod 10000 = ((k % 10000 : Nat) : Int):=by rw [Int.tmod_eq_emod_of_nonneg (by omega)];omega
 have q5 : (k : Int) / 10000 = ((k / 10000 : Nat) : Int):=by omega
 have q6 : (k : Int) % 10000 = ((k % 10000 : Nat) : Int):=by omega
 obtain ⟨p,hp⟩ : ∃ p,k / 10000 = p:=⟨_,rfl⟩
 obtain ⟨r,hr⟩ : ∃ r,k % 10000 = r:=⟨_,rfl⟩
 rw [hp] at HA q0 q5 hkq
 rw [hr] at HB q1 q6 hkr
 clear hp hr
 have q2 : IntKind.i64.wrap (p : Int) = (p : Int):=IntWalk.i64_in _ (by omega)
 have q3 : IntKind.i64.wrap (r : Int) = (r : Int):=IntWalk.i64_in _ (by omega)
 by_cases hn : n < 0
 · obtain rfl : n = -(k : Int):=by omega
   have d0 : decide (0 < k) = true:=decide_eq_true (by omega)
   have q4 : IntKind.i64.wrap (- -(k : Int)) = (k : Int):=by rw [Int.neg_neg];exact IntWalk.i64_in _ (by omega)
   have q7 : IntKind.i64.wrap (k : Int) = (k : Int):=IntWalk.i64_in _ (by omega)
   have HR:=Lh (show realT (-(k : Int)) = 45 :: (A ++ 46 :: V) by unfold realT;rw [if_pos hn,hk,HF.out])
   clear HF h1 h2 hk hn
   go_enter Tryz.func232,Tryz.ntmps232
   go_wp2_with fail
   refine (HW.out _).mono ?_
   rintro e w1 ⟨rfl,rfl⟩
   go_wp2_with fail
   refine (HA.out _).mono ?_
   rintro e w1 ⟨rfl,hb1⟩
   go_wp2_with fail
   refine (HB.out _).mono ?_
   rintro e w2 ⟨rfl,hb2⟩
   go_wp2_with fail
   refine (HC.out _).mono ?_
   rintro e w3 ⟨rfl,rfl⟩
   have hb12:=hb1.trans (hb2.mono hb1.size)
   rcases T with _ | ⟨t,T⟩
   · obtain rfl : V = [48]:=by rw [← hV,if_pos rfl]
     have g1 : ¬ 9223372036854775807 < 1 + A.length:=by omega
     have g2 : ¬ 9223372036854775807 < 1 + A.length + 1:=by omega
     have g3 : ¬ 9223372036854775807 < 1 + A.length + 1 + 1:=by omega
     clear hV hT4 HC
     go_wp2
     go_ret
     exact ⟨by rw [HR.out];simp [ByteArray.mk_append_mk],hb12⟩
   · obtain rfl : V = t :: T:=by rw [← hV,if_neg (by simp)]
     have hT5 : T.length + 1 ≤ 4:=hT4
     have g1 : ¬ 9223372036854775807 < 1 + A.length:=by omega
     have g2 : ¬ 9223372036854775807 < 1 + A.length + 1:=by omega
     have g3 : ¬ 9223372036854775807 < 1 + A.length + 1 + (T.length + 1):=by omega
     clear hV hT4 HC
     go_wp2
     go_ret
     exact ⟨by rw [HR.out];simp [ByteArray.mk_append_mk],hb12⟩
 · obtain rfl : n = (k : Int):=by omega
   have d0 : decide ((k : Int) < 0) = false:=decide_eq_false hn
   have q7 : IntKind.i64.wrap (k : Int) = (k : Int):=IntWalk.i64_in _ (by omega)
   have HR:=Lh (show realT (k : Int) = A ++ 46 :: V by unfold realT;rw [if_neg hn,hk,HF.out])
   clear HF h1 h2 hk hn
   go_enter Tryz.func232,Tryz.ntmps232
   go_wp2_with fail
   refine (HW.out _).mono ?_
   rintro e w1 ⟨rfl,rfl⟩
   go_wp2_with fail
   refine (HA.out _).mono ?_
   rintro e w1 ⟨rfl,hb1⟩
   go_wp2_with fail
   refine (HB.out _).mono ?_
   rintro e w2 ⟨rfl,hb2⟩
   go_wp2_with fail
   refine (HC.out _).mono ?_
   rintro e w3 ⟨rfl,rfl⟩
   have hb12:=hb1.trans (hb2.mono hb1.size)
   rcases T with _ | ⟨t,T⟩
   · obtain rfl : V = [48]:=by rw [← hV,if_pos rfl]
     have g1 : ¬ 9223372036854775807 < A.length:=by omega
     have g2 : ¬ 9223372036854775807 < A.length + 1:=by omega
     have g3 : ¬ 9223372036854775807 < A.length + 1 + 1:=by omega
     clear hV hT4 HC
     go_wp2
     go_ret
     exact ⟨by rw [HR.out];simp [ByteArray.mk_append_mk],hb12⟩
   · obtain rfl : V = t :: T:=by rw [← hV,if_neg (by simp)]
     have hT5 : T.length + 1 ≤ 4:=hT4
     have g1 : ¬ 9223372036854775807 < A.length:=by omega
     have g2 : ¬ 9223372036854775807 < A.length + 1:=by omega
     have g3 : ¬ 9223372036854775807 < A.length + 1 + (T.length + 1):=by omega
     clear hV hT4 HC
     go_wp2
     go_ret
     exact ⟨by rw [HR.out];simp [ByteArray.mk_append_mk],hb12⟩
theorem preal_in (n : Int) (h1 : -1073741824 ≤ n) (h2 : n ≤ 1073741824) (w : World) :
   Calls Tryz.prog 215 #[.int .i64 n] w fun e w' => e = .returned (.tuple #[.string ⟨(realT n).toArray⟩,.int .i64 0]) ∧ Below w.heap.size w w':=by
 have HF:=Lh (fun W => ftext_in n h1 h2 W)
 have d0 : decide (n < -1073741824) = false:=decide_eq_false (by omega)
 have d1 : decide (1073741824 < n) = false:=decide_eq_false (by omega)
 clear h1 h2
 go_enter Tryz.func215,Tryz.ntmps215
 go_wp2_with fail
 refine (HF.out _).mono ?_
 rintro e w1 ⟨rfl,hb1⟩
 go_wp2
 go_ret2
 exact ⟨by simp,hb1⟩
theorem dig_seven : digU 7 = [55]:=by unfold digU;rfl
theorem pad_seven : padW 1 7 = [55]:=by unfold padW;rw [dig_seven];rfl
theorem head_in (w : World) (hT : TabP w) :
   Calls Tryz.prog 80 #[.int .i64 7] w fun e w' => e = .returned (.tuple #[.string ⟨headW.toArray⟩,.int .i64 0]) ∧ Below w.heap.size w w':=by
 have HP : Hid (∀ W,TabP W → Calls Tryz.prog 92 #[.int .i64 7,.int .i64 1] W fun e w' => e = .returned (.string ⟨#[55]⟩) ∧ Below W.heap.size W w'):=Lh (fun W hW => by have:=pad_in 7 1 (by decide) (by decide) (by decide) (by rw [dig_seven];decide) W hW;rw [pad_seven] at this;exact this)
 go_enter Tryz.func80,Tryz.ntmps80
 go_wp2_with fail
 refine (HP.out _ hT).mono ?_
 rintro e w1 ⟨rfl,hb1⟩
 go_wp2
 go_ret2
 exact ⟨by simp [headW,ByteArray.mk_append_mk],hb1⟩
theorem tail_in (n : Nat) (hn : n ≤ 2147483647) (w : World) (hT : TabP w) :
   Calls Tryz.prog 53 #[.int .i64 n] w fun e w' => e = .returned (.string ⟨(tailW n).toArray⟩) ∧ Below w.heap.size w w':=by
 have HP:=Lh (fun W hW => pInt_in (n : Int) (by omega) (by omega) W hW)
 rw [show intV (n : Int) = .tuple #[.string ⟨(digI n).toArray⟩,.int .i64 0] by unfold intV;rw [if_neg (by omega)],show digI (n : Int) = digU n by unfold digI;rw [if_neg (by omega)];rfl] at HP
 have hlD : (digU n).length ≤ 20:=Nat.le_trans (digU_len n 10 (Nat.lt_of_le_of_lt hn (by decide))) (by decide)
 obtain ⟨D,hD⟩ : ∃ D,digU n = D:=⟨_,rfl⟩
 have HR:=Lh (show tailW n = wStart ++ (D ++ wEof) by unfold tailW;rw [hD])
 rw [hD] at HP hlD
 have d0 : decide ((n : Int) < 0) = false:=by simp
 have g1 : ¬ 9223372036854775807 < 10 + D.length:=by omega
 have g2 : ¬ 9223372036854775807 < 10 + D.length + 1:=by omega
 have g3 : ¬ 9223372036854775807 < 10 + D.length + 1 + 5:=by omega
 have g4 : ¬ 9223372036854775807 < 10 + D.length + 1 + 5 + 1:=by omega
 clear hD hlD hn
 go_enter Tryz.func53,Tryz.ntmps53
 go_wp2_with fail
 refine (HP.out _ hT).mono ?_
 rintro e w1 ⟨rfl,hb1⟩
 go_wp2
 go_ret
 exact ⟨by rw [HR.out];simp [wStart,wEof,ByteArray.mk_append_mk],hb1⟩
end Go.Proofs.YtfgdhcemidlnfaaGreatDoor
