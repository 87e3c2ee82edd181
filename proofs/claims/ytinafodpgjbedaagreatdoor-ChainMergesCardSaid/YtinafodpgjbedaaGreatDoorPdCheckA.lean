/- Parts of the proof: CheckA. -/
import Derived.Test.YtinafodpgjbedaaGreatDoorPdf
set_option linter.all false
set_option maxRecDepth 100000
set_option maxHeartbeats 8000000
namespace Go.Proofs.YtinafodpgjbedaaGreatDoor
open Go.RowKit Fo
theorem ObjAt.form2 {S : Nat → Prop} {d : Nat} {w : World} {cs : List Value} {o : Ob} (h : ObjAt S d w cs o) : ∃ p1 c1 p2 c2,cs = objCells o.kind o.n o.g o.s (.slice p1 o.keys.length c1) (.slice p2 o.kids.length c2):=by
 cases d with
 | zero => exact h.elim
 | succ d =>
   obtain ⟨kv,dv,h1,h2,h3⟩:=h
   have a1 : ∃ p c,kv = .slice p o.keys.length c:=by
     rcases h2 with ⟨e,p,c,h⟩ | ⟨b,o,c,h,_⟩
     · exact ⟨_,_,by rw [e];exact h⟩
     · exact ⟨_,_,h⟩
   have a2 : ∃ p c,dv = .slice p o.kids.length c:=by
     rcases h3 with ⟨e,p,c,h⟩ | ⟨b,o,c,h,_⟩
     · exact ⟨_,_,by rw [e];exact h⟩
     · exact ⟨_,_,h⟩
   obtain ⟨p1,c1,rfl⟩:=a1
   obtain ⟨p2,c2,rfl⟩:=a2
   exact ⟨p1,c1,p2,c2,h1⟩
def zeroV (N G : Int) (s : L) (n1 n2 : Nat) (n g t l : Bool) : Bool:=(n || N == 0) && (g || G == 0) && (t || s.isEmpty) && (l || ((n1 : Int) == 0 && (n2 : Int) == 0))
theorem zero_in (K N G : Int) (s : L) (p1 p2 : Option Addr) (n1 c1 n2 c2 : Nat) (n g t l : Bool) (w : World) :
   Calls Tryz.prog 148 #[.agg #[.int .i64 K,.int .i64 N,.int .i64 G,.string ⟨s.toArray⟩,.slice p1 n1 c1,.slice p2 n2 c2],.bool n,.bool g,.bool t,.bool l] w fun e w' => e = .returned (.bool (zeroV N G s n1 n2 n g t l)) ∧ Below w.heap.size w w':=by
 cases n <;> cases g <;> cases t <;> cases l
 all_goals
   go_enter Tryz.func148,Tryz.ntmps148
   go_wp2
   all_goals go_ret
   all_goals exact ⟨ret_bool (by unfold zeroV;simp_all),bel⟩
def usesV (K N G : Int) (s : L) (n1 n2 : Nat) : Bool :=
 if K = 0 then zeroV N G s n1 n2 false false false false
 else if K = 1 ∨ K = 2 ∨ K = 3 then zeroV N G s n1 n2 true false false false
 else if K = 4 ∨ K = 5 then zeroV N G s n1 n2 false false true false
 else if K = 6 then zeroV N G s n1 n2 false false false true && ((n1 : Int) == 0)
 else if K = 7 then zeroV N G s n1 n2 false false false true
 else if K = 8 then zeroV N G s n1 n2 true true false false
 else if K = 9 then zeroV N G s n1 n2 false false true true
 else false
theorem uses_in (K N G : Int) (s : L) (p1 p2 : Option Addr) (n1 c1 n2 c2 : Nat) (w : World) :
   Calls Tryz.prog 113 #[.agg #[.int .i64 K,.int .i64 N,.int .i64 G,.string ⟨s.toArray⟩,.slice p1 n1 c1,.slice p2 n2 c2]] w fun e w' => e = .returned (.bool (usesV K N G s n1 n2)) ∧ Below w.heap.size w w':=by
 have HZ:=Lh (fun n g t l W => zero_in K N G s p1 p2 n1 c1 n2 c2 n g t l W)
 go_enter Tryz.func113,Tryz.ntmps113
 go_wp2_with (go_at_call 148;refine (HZ.out _ _ _ _ _).mono ?_;rintro e w1 ⟨rfl,hb1⟩;obtain ⟨hc,hf⟩:=bcell hb1;have hz:=hb1.size;simp at hz)
 all_goals go_ret
 all_goals exact ⟨ret_bool (by unfold usesV;simp_all),bel⟩
theorem take_snoc_b (s : ByteArray) (k : Nat) (h : k < s.size) : s.data.toList.take (k + 1) = s.data.toList.take k ++ [s[k]]:=by
 rw [List.take_succ_eq_append_getElem (by simpa using h)];rfl
theorem name_in' (x : L) (w : World) (hx : x.length ≤ 140737488355328) :
   Calls Tryz.prog 149 #[.string ⟨x.toArray⟩] w fun e w' => e = .returned (.bool (nameB x)) ∧ w' = w:=by
 obtain ⟨s,hs⟩ : ∃ s : ByteArray,s = ⟨x.toArray⟩:=⟨_,rfl⟩
 have hsx : s.data.toList = x:=by rw [hs]
 rw [← hs]
 have hn : s.size ≤ 140737488355328:=by rw [hs];exact hx
 have HX:=Lh hsx
 clear hs hsx hx
 go_enter Tryz.func149,Tryz.ntmps149
 go_wp2
 go_loop [3] (fun i => ∃ k : Nat,k ≤ s.size ∧ i = .int .i64 k ∧ Hid (((x.take k).all (· != 0)) = true)) (fun i => s.size - (intOf i).toNat)
 case atStart => exact ⟨0,Nat.zero_le _,rfl,Lh (by simp)⟩
 case round =>
   obtain ⟨k,hk,rfl,HA⟩:=hrel
   by_cases hlt : k < s.size
   · have hsn : x.take (k + 1) = x.take k ++ [s[k]] := by
       have:=HX.out
       subst this
       exact take_snoc_b s k hlt
     have H2:=Lh hsn
     clear hsn
     by_cases h0 : s[k] = 0
     · have h0' : ((s[k].toNat : Int) == 0) = true:=eq_yes (n:=0) (by decide) h0
       have H0:=Lh h0
       clear h0
       go_wp2
       go_ret
       refine ⟨ret_bool ?_,rfl⟩
       symm
       unfold nameB
       have h1 : ¬ (x.all (· != 0)) = true:=by
         intro h
         have h3 : (x.take (k + 1)).all (· != 0) = true:=by
           rw [List.all_eq_true] at h ⊢
           exact fun c hc => h c (List.mem_of_mem_take hc)
         rw [H2.out,List.all_append,H0.out] at h3
         simp at h3
       simp [h1]
     · have h0' : ((s[k].toNat : Int) == 0) = false:=eq_no (n:=0) (by decide) h0
       have H0:=Lh h0
       clear h0
       go_wp2
       go_round
       case rel =>
         refine ⟨k + 1,by omega,by go_num,Lh ?_⟩
         rw [H2.out,List.all_append,HA.out]
         simpa using H0.out
       case measure => simp [intOf];omega
   · have hke : k = s.size:=by omega
     have hxe : x.take k = x:=List.take_of_length_le (by rw [← HX.out,hke];exact Nat.le_refl _)
     have hxs : s.size = x.length:=by rw [← HX.out];rfl
     rw [hxe] at HA
     have H2:=Lh hxs
     clear hke hxe hxs
     go_wp2
     go_ret
     exact ⟨ret_bool (by unfold nameB;rw [HA.out,← H2.out];simp;omega),rfl⟩
theorem long_in (K : Int) (w : World) :
   Calls Tryz.prog 115 #[.int .i64 K] w fun e w' => e = .returned (.int .i64 (longB K)) ∧ w' = w:=by
 go_enter Tryz.func115,Tryz.ntmps115
 go_wp2
 all_goals go_ret
 all_goals exact ⟨ret_int (by unfold longB;simp_all),rfl⟩
def fitsV (K N G : Int) : Bool :=
 if K = 1 then N == 0 || N == 1
 else if K = 2 then decide (-2147483647 ≤ N) && decide (N ≤ 2147483647)
 else if K = 3 then decide (-1073741824 ≤ N) && decide (N ≤ 1073741824)
 else if K = 8 then decide (1 ≤ N) && decide (N ≤ 8191) && decide (0 ≤ G) && decide (G ≤ 65535)
 else true
theorem fits_in (K N G : Int) (s : L) (p1 p2 : Option Addr) (n1 c1 n2 c2 : Nat) (w : World) :
   Calls Tryz.prog 114 #[.agg #[.int .i64 K,.int .i64 N,.int .i64 G,.string ⟨s.toArray⟩,.slice p1 n1 c1,.slice p2 n2 c2]] w fun e w' => e = .returned (.bool (fitsV K N G)) ∧ Below w.heap.size w w':=by
 go_enter Tryz.func114,Tryz.ntmps114
 go_wp2
 all_goals go_ret
 all_goals exact ⟨ret_bool (by unfold fitsV;first | (simp_all;done) | (simp_all;omega)),bel⟩
end Go.Proofs.YtinafodpgjbedaaGreatDoor
