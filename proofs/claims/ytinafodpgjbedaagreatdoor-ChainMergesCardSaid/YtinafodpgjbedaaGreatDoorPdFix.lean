/- Parts of the proof: Fix. -/
import Derived.Test.YtinafodpgjbedaaGreatDoorPdb
set_option linter.all false
set_option maxRecDepth 100000
set_option maxHeartbeats 8000000
namespace Go.Proofs.YtinafodpgjbedaaGreatDoor
open Go.RowKit Fo
theorem pre_as (s : ByteArray) (p : L) (b : Bool) (h : p.isPrefixOf s.data.toList = b) (w : World) :
   Calls Tryz.prog 42 #[.string s,.string ⟨p.toArray⟩] w fun e w' => e = .returned (.bool b) ∧ w' = w:=by
 have:=Tryz.strings_HasPrefix s ⟨p.toArray⟩ w
 rw [show Lib.hasPrefix s.data.toList (ByteArray.mk p.toArray).data.toList = b from h] at this
 exact this
theorem read_long (s : ByteArray) (hs : 40 < s.size) (hs2 : s.size ≤ 140737488355327) (w : World) :
   Calls Tryz.prog 166 #[.string s] w fun e w' => e = .returned (intR (fixV s.data.toList)) ∧ Below w.heap.size w w':=by
 have HX : Hid (fixV s.data.toList = .bad 3):=by
   show _ = _;unfold fixV;rw [if_pos (show 40 < s.data.toList.length from hs)]
 go_enter_defers Tryz.func166,Tryz.ntmps166
 go_wp2
 refine leaves_cons (f:=201) (args:=#[.pointer (some ⟨w.heap.size,0,none⟩),.pointer (some ⟨w.heap.size + 1,0,none⟩)]) (by simp) (by simp [go_sem]) ?_
 refine (fface_idle _ _ _).mono ?_
 rintro e u' w'' ⟨rfl,rfl,rfl⟩
 simp [Leaves,settle,results,Tryz.results166,go_sem]
 exact ⟨by rw [HX.out];rfl,bel⟩
def iterSet (w : World) (b : Nat) (s : ByteArray) (p : Nat) : World:={ w with heap:=w.heap.setIfInBounds b (.stringIter s p) }
theorem next_at (w : World) (b pos : Nat) (s : ByteArray) (ty : TypeId) (h : w.heap[b]? = some (.stringIter s pos)) (hp : pos < s.size) (ha : (s[pos]'hp).toNat < 128) :
   (Instr.next (.pointer (some ⟨b,0,none⟩)) true ty).run Tryz.prog w = .ok (.tuple #[.bool true,.int .i64 pos,.int .i32 (s[pos]'hp).toNat]) (iterSet w b s (pos + 1)):=by
 simp only [Instr.next,getObj,setObj,Sem.run_bind,Sem.run,h,Result.andThen,hp,if_true,decode_ascii s pos hp ha]
 simp [goInt,Sem.run,h,iterSet]
theorem next_end (w : World) (b pos : Nat) (s : ByteArray) (ty : TypeId) (h : w.heap[b]? = some (.stringIter s pos)) (hp : ¬ pos < s.size) :
   (Instr.next (.pointer (some ⟨b,0,none⟩)) true ty).run Tryz.prog w = .ok (.tuple #[.bool false]) w:=by
 simp [Instr.next,getObj,Sem.run,h,hp]
theorem iterSet_block (w : World) (b k : Nat) (s : ByteArray) (p : Nat) (hk : k ≠ b) : (iterSet w b s p).heap[k]? = w.heap[k]?:=by
 unfold iterSet;simp only [Array.getElem?_setIfInBounds];rw [if_neg (by omega)]
theorem iterSet_same (w : World) (b : Nat) (s : ByteArray) (p : Nat) (hb : b < w.heap.size) : (iterSet w b s p).heap[b]? = some (.stringIter s p):=by
 unfold iterSet;simp [Array.getElem?_setIfInBounds,hb]
theorem iterSet_cell (w : World) (b k o : Nat) (s : ByteArray) (p : Nat) (hk : k ≠ b) : (iterSet w b s p).cell? ⟨k,o,none⟩ = w.cell? ⟨k,o,none⟩:=World.cell?_of_block (iterSet_block w b k s p hk)
theorem iterSet_frozen (w : World) (b k o : Nat) (s : ByteArray) (p : Nat) (hk : k ≠ b) : (iterSet w b s p).frozen? ⟨k,o,none⟩ = w.frozen? ⟨k,o,none⟩:=World.frozen?_of_block (iterSet_block w b k s p hk)
theorem iterSet_below {B b : Nat} {a w : World} (h : Below B a w) (hB : B ≤ b) (s : ByteArray) (p : Nat) : Below B a (iterSet w b s p) :=
 h.trans ⟨rfl,rfl,rfl,by simp [iterSet],fun k hk => iterSet_block w b k s p (by omega)⟩
theorem catE (a p : L) : ((ByteArray.mk a.toArray) ++ (ByteArray.mk p.toArray)).toList.isEmpty = (a ++ p).isEmpty:=by
 rw [Lib.toList_data];simp
theorem catE_no {a p : L} (h : ¬ (a ++ p).isEmpty = true) : ((ByteArray.mk a.toArray) ++ (ByteArray.mk p.toArray)).toList.isEmpty = false:=by
 rw [catE];simpa using h
theorem catE_yes {a p : L} (h : (a ++ p).isEmpty = true) : ((ByteArray.mk a.toArray) ++ (ByteArray.mk p.toArray)).toList.isEmpty = true:=by
 rw [catE];exact h
theorem trimR_as (x : ByteArray) (t : L) (h : Lib.trimRightS x.data.toList [48] = t) (hx : x.size ≤ 9223372036854775807) (w : World) :
   Calls Tryz.prog 204 #[.string x,.string ⟨#[48]⟩] w fun e w' => e = .returned (.string ⟨t.toArray⟩) ∧ Below w.heap.size w w':=by
 have:=Tryz.strings_TrimRight_cut x ⟨#[48]⟩ w hx (by decide) (ascii_of_all (by decide))
 rw [show Lib.trimRightS x.data.toList (ByteArray.mk #[48]).data.toList = t from h] at this
 exact this
theorem read_val {l a p : L} {R : Res Int} (HR : (if (a ++ p).isEmpty then (.bad 3 : Res Int) else if !allDig a || !allDig p then .bad 3
   else
     let m:=val (a ++ part4 p)
     let m:=if (if minus l then overHalf (p.drop 4) else atHalf (p.drop 4)) then m + 1 else m
     if 1073741824 < m then .bad 2 else .good (if minus l then -(m : Int) else m)) = R)
   (hemp : ¬ (a ++ p).isEmpty = true) (ha : allDig a = true) (hp : allDig p = true) (bl up : Bool) (hm : minus l = bl) (hup : (if bl then overHalf (p.drop 4) else atHalf (p.drop 4)) = up) (u : Nat) (hu : u = val (a ++ part4 p)) :
   R = if 1073741824 < u + (if up then 1 else 0) then .bad 2 else .good (if bl then -((u + (if up then 1 else 0) : Nat) : Int) else ((u + (if up then 1 else 0) : Nat) : Int)):=by
 rw [← HR,if_neg hemp,ha,hp,hm,← hu]
 simp only [Bool.not_true,Bool.or_self,Bool.false_eq_true,if_false,hup]
 cases up <;> simp
theorem pre_cases (l : L) : (([45] : L).isPrefixOf l = false → ([43] : L).isPrefixOf l = false → unsigned l = l ∧ minus l = false) ∧
   (([43] : L).isPrefixOf l = true → unsigned l = l.drop 1 ∧ minus l = false ∧ 1 ≤ l.length) ∧ (([45] : L).isPrefixOf l = true → unsigned l = l.drop 1 ∧ minus l = true ∧ 1 ≤ l.length):=by
 cases l with
 | nil => simp [unsigned,minus]
 | cons c l =>
   refine ⟨fun h1 h2 => ?_,fun h => ?_,fun h => ?_⟩
   · have a1 : ¬ c = 45:=by rintro rfl;simp at h1
     have a2 : ¬ c = 43:=by rintro rfl;simp at h2
     simp [unsigned,sign,minus,a1,a2]
   · have : c = 43:=by simp at h;exact h.symm
     subst this;simp [unsigned,sign,minus]
   · have : c = 45:=by simp at h;exact h.symm
     subst this;simp [unsigned,sign,minus]
theorem read_in (s : ByteArray) (hs : s.size ≤ 40) (m : Int) (w : World) (hm : MaxW w m) :
   Calls Tryz.prog 166 #[.string s] w fun e w' => e = .returned (intR (fixV s.data.toList)) ∧ Below w.heap.size w w':=by
 obtain ⟨R,hR⟩ : ∃ R,fixV s.data.toList = R:=⟨_,rfl⟩
 rw [hR]
 unfold fixV at hR
 rw [if_neg (Nat.not_lt.2 (show s.data.toList.length ≤ 40 from hs))] at hR
 obtain ⟨a,ha⟩ : ∃ a,preDot (unsigned s.data.toList) = a:=⟨_,rfl⟩
 obtain ⟨p,hp⟩ : ∃ p,postDot (unsigned s.data.toList) = p:=⟨_,rfl⟩
 rw [ha,hp] at hR
 have hm2 : MaxW ((w.alloc (.cells #[.int .i64 0] 2)).alloc (.cells #[.int .i64 0] 43)) m:=hm.below bel
 have hu : (unsigned s.data.toList).length ≤ s.size:=by
   have : s.data.toList.length = s.size:=rfl
   cases h : s.data.toList with
   | nil => simp [unsigned]
   | cons c l => rw [h] at this;simp only [unsigned];split <;> simp_all <;> omega
 have hal : a.length ≤ 40:=by
   rw [← ha];unfold preDot;exact Nat.le_trans (List.takeWhile_sublist _).length_le (by omega)
 have hpl : p.length ≤ 40:=by
   rw [← hp];unfold postDot;exact Nat.le_trans (List.drop_sublist _ _).length_le (Nat.le_trans (List.dropWhile_sublist _).length_le (by omega))
 have HR:=Lh hR
 clear hR
 have hpre:=pre_cases s.data.toList
 cases h45 : ([45] : L).isPrefixOf s.data.toList
 · cases h43 : ([43] : L).isPrefixOf s.data.toList
   · obtain ⟨hun,hmi⟩:=hpre.1 h45 h43
     rw [hun] at ha hp
     have HCa:=Lh ha
     have HCp:=Lh hp
     have HM:=Lh hmi
     have H45:=Lh h45
     have H43:=Lh h43
     obtain ⟨su,hsu⟩ : ∃ su,su = s:=⟨_,rfl⟩
     subst hsu
     have hsl:=Lh hs
     clear ha hp hun hmi h45 h43 hu hpre
     go_enter_defers Tryz.func166,Tryz.ntmps166
     by_cases hemp : (a ++ p).isEmpty = true
     · have hne:=catE_yes hemp
       have HX:=Lh (show R = .bad 3 by rw [← HR.out,if_pos hemp])
       clear hemp
       go_wp2_with (first | (go_at_call 42;first | (refine (pre_as _ [45] _ H45.out _).mono ?_;rintro e w' ⟨rfl,rfl⟩) | (refine (pre_as _ [43] _ H43.out _).mono ?_;rintro e w' ⟨rfl,rfl⟩)) | (go_at_call 202;refine (cutdot_in su a p HCa.out HCp.out hsl.out m _ hm2).mono ?_;rintro e w2 ⟨f,rfl,n1,rfl⟩))
       refine leaves_cons (f:=201) (args:=#[.pointer (some ⟨w.heap.size,0,none⟩),.pointer (some ⟨w.heap.size + 1,0,none⟩)]) (by simp) (by simp [go_sem]) ?_
       refine (fface_idle _ _ _).mono ?_
       rintro e u' w'' ⟨rfl,rfl,rfl⟩
       simp [Leaves,settle,results,Tryz.results166,go_sem]
       exact ⟨by rw [HX.out];rfl,bel⟩
     · cases hda : allDig a
       · have HX:=Lh (show R = .bad 3 by rw [← HR.out,if_neg hemp,hda];rfl)
         have hne:=catE_no hemp
         have HA:=Lh hda
         clear hda hemp
         go_wp2_with (first | (go_at_call 42;first | (refine (pre_as _ [45] _ H45.out _).mono ?_;rintro e w' ⟨rfl,rfl⟩) | (refine (pre_as _ [43] _ H43.out _).mono ?_;rintro e w' ⟨rfl,rfl⟩)) | (go_at_call 202;refine (cutdot_in su a p HCa.out HCp.out hsl.out m _ hm2).mono ?_;rintro e w2 ⟨f,rfl,n1,rfl⟩))
         refine (digits_in a (by omega) false HA.out _).mono ?_
         rintro e w3 ⟨rfl,hb3⟩
         obtain ⟨hc3,hf3⟩:=bcell hb3
         have hz3 : w.heap.size + 1 < w3.heap.size:=by have:=hb3.size;simp at this;omega
         have hz4 : w.heap.size < w3.heap.size:=by omega
         have q0 : w3.cell? ⟨w.heap.size,0,none⟩ = some (.int .i64 0):=by rw [hc3 _ _ (by simp <;> omega)];simp [go_sem]
         have q1 : w3.cell? ⟨w.heap.size + 1,0,none⟩ = some (.int .i64 0):=by rw [hc3 _ _ (by simp <;> omega)];simp [go_sem]
         have q2 : w3.frozen? ⟨w.heap.size,0,none⟩ = false:=by rw [hf3 _ _ (by simp <;> omega)];simp [go_sem]
         have q3 : w3.frozen? ⟨w.heap.size + 1,0,none⟩ = false:=by rw [hf3 _ _ (by simp <;> omega)];simp [go_sem]
         go_wp2
         refine leaves_cons (f:=201) (args:=#[.pointer (some ⟨w.heap.size,0,none⟩),.pointer (some ⟨w.heap.size + 1,0,none⟩)]) (by simp) (by simp [go_sem]) ?_
         refine (fface_idle _ _ _).mono ?_
         rintro e u' w'' ⟨rfl,rfl,rfl⟩
         simp [Leaves,settle,results,Tryz.results166,go_sem,q0,q1,q2,q3]
         exact ⟨by rw [HX.out];rfl,bel⟩
       · cases hdp : allDig p
         · have HX:=Lh (show R = .bad 3 by rw [← HR.out,if_neg hemp,hda,hdp];rfl)
           have hne:=catE_no hemp
           have HA:=Lh hda
           have HP:=Lh hdp
           clear hda hdp hemp
           go_wp2_with (first | (go_at_call 42;first | (refine (pre_as _ [45] _ H45.out _).mono ?_;rintro e w' ⟨rfl,rfl⟩) | (refine (pre_as _ [43] _ H43.out _).mono ?_;rintro e w' ⟨rfl,rfl⟩)) | (go_at_call 202;refine (cutdot_in su a p HCa.out HCp.out hsl.out m _ hm2).mono ?_;rintro e w2 ⟨f,rfl,n1,rfl⟩))
           refine (digits_in a (by omega) true HA.out _).mono ?_
           rintro e w3 ⟨rfl,hb3⟩
           have hz3 : w.heap.size + 2 ≤ w3.heap.size:=by have:=hb3.size;simp at this;omega
           go_wp2_with fail
           refine (digits_in p (by omega) false HP.out _).mono ?_
           rintro e w4 ⟨rfl,hb4⟩
           replace hb4:=hb3.trans (hb4.mono (by simp;omega))
           obtain ⟨hc4,hf4⟩:=bcell hb4
           have hz4 : w.heap.size + 1 < w4.heap.size:=by have:=hb4.size;simp at this;omega
           have hz5 : w.heap.size < w4.heap.size:=by omega
           clear hb3 hz3
           have q0 : w4.cell? ⟨w.heap.size,0,none⟩ = some (.int .i64 0):=by rw [hc4 _ _ (by simp <;> omega)];simp [go_sem]
           have q1 : w4.cell? ⟨w.heap.size + 1,0,none⟩ = some (.int .i64 0):=by rw [hc4 _ _ (by simp <;> omega)];simp [go_sem]
           have q2 : w4.frozen? ⟨w.heap.size,0,none⟩ = false:=by rw [hf4 _ _ (by simp <;> omega)];simp [go_sem]
           have q3 : w4.frozen? ⟨w.heap.size + 1,0,none⟩ = false:=by rw [hf4 _ _ (by simp <;> omega)];simp [go_sem]
           go_wp2
           refine leaves_cons (f:=201) (args:=#[.pointer (some ⟨w.heap.size,0,none⟩),.pointer (some ⟨w.heap.size + 1,0,none⟩)]) (by simp) (by simp [go_sem]) ?_
           refine (fface_idle _ _ _).mono ?_
           rintro e u' w'' ⟨rfl,rfl,rfl⟩
           simp [Leaves,settle,results,Tryz.results166,go_sem,q0,q1,q2,q3]
           exact ⟨by rw [HX.out];rfl,(by repeat' (first | (with_reducible first | exact Below.refl _ _ | refine Below.drew ?_ | refine belowDrewN ?_ _ | refine belowIter ?_ ?_ _ _ | refine Below.setCell ?_ ?_ _ | refine Below.alloc ?_ ?_ _ | refine bT hb4 ?_ ?_ | refine bT hb2 ?_ ?_ | refine bT hb1 ?_ ?_ | refine bT hbr ?_ ?_ | refine bT hb ?_ ?_) | (simp;done) | (simp;omega) | omega))⟩
         · have HA:=Lh hda
           have HP:=Lh hdp
           clear hda hdp
           have hne:=catE_no hemp
           go_wp2_with (first | (go_at_call 42;first | (refine (pre_as _ [45] _ H45.out _).mono ?_;rintro e w' ⟨rfl,rfl⟩) | (refine (pre_as _ [43] _ H43.out _).mono ?_;rintro e w' ⟨rfl,rfl⟩)) | (go_at_call 202;refine (cutdot_in su a p HCa.out HCp.out hsl.out m _ hm2).mono ?_;rintro e w2 ⟨f,rfl,n1,rfl⟩))
           refine (digits_in a (by omega) true HA.out _).mono ?_
           rintro e w3 ⟨rfl,hb3⟩
           obtain ⟨hc3,hf3⟩:=bcell hb3
           have hz3 : w.heap.size + 2 ≤ w3.heap.size:=by have:=hb3.size;simp at this;omega
           go_wp2_with fail
           refine (digits_in p (by omega) true HP.out _).mono ?_
           rintro e w4 ⟨rfl,hb4⟩
           replace hb4:=hb3.trans (hb4.mono (by simp;omega))
           obtain ⟨hc4,hf4⟩:=bcell hb4
           have hz4 : w.heap.size + 2 ≤ w4.heap.size:=by have:=hb4.size;simp at this;omega
           clear hb3 hc3 hf3 hz3
           go_wp2
           have hbw : Below w.heap.size w w4:=(by repeat' (first | (with_reducible first | exact Below.refl _ _ | refine Below.drew ?_ | refine belowDrewN ?_ _ | refine belowIter ?_ ?_ _ _ | refine Below.setCell ?_ ?_ _ | refine Below.alloc ?_ ?_ _ | refine bT hb4 ?_ ?_ | refine bT hb2 ?_ ?_ | refine bT hb1 ?_ ?_ | refine bT hbr ?_ ?_ | refine bT hb ?_ ?_) | (simp;done) | (simp;omega) | omega))
           have n0 : (w4.iter ⟨a.toArray⟩ 0).cell? ⟨w.heap.size,0,none⟩ = some (.int .i64 0):=by
             rw [World.iter,World.cell?_alloc_past _ _ _ (by omega),hc4 _ _ (by simp <;> omega)];simp [go_sem]
           have n1' : (w4.iter ⟨a.toArray⟩ 0).cell? ⟨w.heap.size + 1,0,none⟩ = some (.int .i64 0):=by
             rw [World.iter,World.cell?_alloc_past _ _ _ (by omega),hc4 _ _ (by simp <;> omega)];simp [go_sem]
           have n2 : (w4.iter ⟨a.toArray⟩ 0).frozen? ⟨w.heap.size,0,none⟩ = false:=by
             rw [World.iter,World.frozen?_alloc_past _ _ _ (by omega),hf4 _ _ (by simp <;> omega)];simp [go_sem]
           have n3 : (w4.iter ⟨a.toArray⟩ 0).frozen? ⟨w.heap.size + 1,0,none⟩ = false:=by
             rw [World.iter,World.frozen?_alloc_past _ _ _ (by omega),hf4 _ _ (by simp <;> omega)];simp [go_sem]
           go_loopw [9] (fun _ wr => ∃ (k v : Nat),k ≤ a.length ∧ v ≤ 1073741824 ∧ wr.cell? ⟨w.heap.size,0,none⟩ = some (.int .i64 v) ∧ wr.cell? ⟨w.heap.size + 1,0,none⟩ = some (.int .i64 0) ∧ wr.frozen? ⟨w.heap.size,0,none⟩ = false ∧ wr.frozen? ⟨w.heap.size + 1,0,none⟩ = false ∧ wr.heap[w4.heap.size]? = some (.stringIter ⟨a.toArray⟩ k) ∧ Below w.heap.size w wr ∧ Hid (v = val (a.take k))) (fun _ wr => a.length - wr.iterPos w4.heap.size)
           case atStart => exact ⟨0,0,by omega,by omega,n0,n1',n2,n3,World.iter_heap _ _ _,belowIter hbw (by omega) _ _,by show _ = _;simp [val]⟩
           case round =>
             obtain ⟨k,v,hk,hv,r0,r1,r2,r3,hit,hbr,HV⟩:=hrel
             clear n0 n1' n2 n3
             by_cases hlt : k < a.length
             · have hg:=dig_bounds (List.all_eq_true.1 (show a.all isDig = true from HA.out) _ (List.getElem_mem hlt))
               obtain ⟨W1,hW1⟩ : ∃ W1,iterSet wr w4.heap.size ⟨a.toArray⟩ (k + 1) = W1:=⟨_,rfl⟩
               have hnx : ∀ ty,(Instr.next (.pointer (some ⟨w4.heap.size,0,none⟩)) true ty).run Tryz.prog wr = .ok (.tuple #[.bool true,.int .i64 k,.int .i32 a[k].toNat]) W1:=fun ty => by
                 rw [← hW1];exact next_at wr _ k ⟨a.toArray⟩ ty hit (by show k < a.toArray.size;simpa using hlt) (by show a[k].toNat < 128;omega)
               have q0 : W1.cell? ⟨w.heap.size,0,none⟩ = some (.int .i64 v):=by rw [← hW1,iterSet_cell _ _ _ _ _ _ (by omega)];exact r0
               have q1 : W1.cell? ⟨w.heap.size + 1,0,none⟩ = some (.int .i64 0):=by rw [← hW1,iterSet_cell _ _ _ _ _ _ (by omega)];exact r1
               have q2 : W1.frozen? ⟨w.heap.size,0,none⟩ = false:=by rw [← hW1,iterSet_frozen _ _ _ _ _ _ (by omega)];exact r2
               have q3 : W1.frozen? ⟨w.heap.size + 1,0,none⟩ = false:=by rw [← hW1,iterSet_frozen _ _ _ _ _ _ (by omega)];exact r3
               have qb : Below w.heap.size w W1:=by rw [← hW1];exact iterSet_below hbr (by omega) _ _
               have qi : W1.heap[w4.heap.size]? = some (.stringIter ⟨a.toArray⟩ (k + 1)):=by rw [← hW1];exact iterSet_same _ _ _ _ (lt_of_block hit)
               have HV2:=Lh (show 10 * v + (a[k].toNat - 48) = val (a.take (k + 1)) by rw [take_snoc' a k hlt,val_snoc,HV.out])
               have HIP:=Lh (And.intro hit qi)
               clear hW1 r0 r1 r2 r3 hbr HV hit qi
               by_cases hbig : 1073741824 < 10 * v + (a[k].toNat - 48)
               · have HX := Lib.hid (show R = .bad 2 by
                   rw [← HR.out,if_neg (by simpa using hemp),HA.out,HP.out]
                   have : val (a.take (k + 1)) ≤ val (a ++ part4 p):=by
                     conv => rhs;rw [← List.take_append_drop (k + 1) a,List.append_assoc]
                     exact val_le_append _ _
                   have h2:=HV2.out
                   simp only [Bool.not_true,Bool.or_self,Bool.false_eq_true,if_false]
                   rw [if_pos (by split <;> split <;> omega)])
                 go_wp2
                 refine leaves_cons (f:=201) (args:=#[.pointer (some ⟨w.heap.size,0,none⟩),.pointer (some ⟨w.heap.size + 1,0,none⟩)]) (by simp) (by simp [go_sem]) ?_
                 refine (fface_idle _ _ _).mono ?_
                 rintro e u' w'' ⟨rfl,rfl,rfl⟩
                 simp [Leaves,settle,results,Tryz.results166,go_sem,q0,q1,q2,q3]
                 exact ⟨by rw [HX.out];rfl,(by repeat' (first | (with_reducible first | exact Below.refl _ _ | refine Below.drew ?_ | refine belowDrewN ?_ _ | refine belowIter ?_ ?_ _ _ | refine Below.setCell ?_ ?_ _ | refine Below.alloc ?_ ?_ _ | refine bT hb4 ?_ ?_ | refine bT qb ?_ ?_ | refine bT hb2 ?_ ?_ | refine bT hb1 ?_ ?_ | refine bT hbr ?_ ?_ | refine bT hb ?_ ?_) | (simp;done) | (simp;omega) | omega))⟩
               · go_wp2
                 go_roundw
                 case rel =>
                   refine ⟨k + 1,10 * v + (a[k].toNat - 48),by omega,by omega,?_,?_,?_,?_,?_,?_,HV2⟩
                   · rw [World.cell?_setCell_same _ _ _ q0];congr 2;omega
                   · rw [World.cell?_setCell_other _ _ _ _ (by simp)];exact q1
                   · rw [World.frozen?_setCell];exact q2
                   · rw [World.frozen?_setCell];exact q3
                   · rw [Below.heap_setCell _ _ _ _ (by show w4.heap.size ≠ w.heap.size;omega)];exact HIP.out.2
                   · exact qb.setCell (by simp) _
                 case measure =>
                   rw [iterPos_of (by rw [Below.heap_setCell _ _ _ _ (by show w4.heap.size ≠ w.heap.size;omega)];exact HIP.out.2),iterPos_of HIP.out.1];omega
             · have hk2 : k = a.length:=by omega
               subst hk2
               have hnx : ∀ ty,(Instr.next (.pointer (some ⟨w4.heap.size,0,none⟩)) true ty).run Tryz.prog wr = .ok (.tuple #[.bool false]) wr:=fun ty => next_end wr _ a.length ⟨a.toArray⟩ ty hit (by show ¬ a.length < a.toArray.size;simp)
               have HV1:=Lh (show v = val a by have:=HV.out;rwa [List.take_length] at this)
               clear HV
               go_wp2
               obtain ⟨pp,hpp⟩ : ∃ pp,(ByteArray.mk p.toArray) ++ (ByteArray.mk #[48,48,48,48,48]) = pp:=⟨_,rfl⟩
               rw [hpp]
               have hpl2 : pp.data.toList = p ++ [48,48,48,48,48]:=by rw [← hpp];simp
               have hps : p.length + 5 = pp.size:=by show _ = pp.data.toList.length;rw [hpl2];simp
               obtain ⟨q4,hq4⟩ : ∃ q4,pp.extract 0 4 = q4:=⟨_,rfl⟩
               have hq4l : q4.data.toList = part4 p:=by rw [← hq4,Lib.extract_data,List.drop_zero,hpl2];exact part4_eq p
               have hq4s : q4.size = 4:=by show q4.data.toList.length = 4;rw [hq4l];simp [part4]
               rw [hq4]
               clear hpp hq4
               obtain ⟨W2,hW2⟩ : ∃ W2,wr.iter q4 0 = W2:=⟨_,rfl⟩
               have hlt4:=lt_of_block hit
               have z0 : W2.cell? ⟨w.heap.size,0,none⟩ = some (.int .i64 v):=by rw [← hW2,World.iter,World.cell?_alloc_past _ _ _ (by omega)];exact r0
               have z1 : W2.cell? ⟨w.heap.size + 1,0,none⟩ = some (.int .i64 0):=by rw [← hW2,World.iter,World.cell?_alloc_past _ _ _ (by omega)];exact r1
               have z2 : W2.frozen? ⟨w.heap.size,0,none⟩ = false:=by rw [← hW2,World.iter,World.frozen?_alloc_past _ _ _ (by omega)];exact r2
               have z3 : W2.frozen? ⟨w.heap.size + 1,0,none⟩ = false:=by rw [← hW2,World.iter,World.frozen?_alloc_past _ _ _ (by omega)];exact r3
               have zb : Below w.heap.size w W2:=by rw [← hW2];exact belowIter hbr (by omega) _ _
               have zi : W2.heap[wr.heap.size]? = some (.stringIter q4 0):=by rw [← hW2];exact World.iter_heap _ _ _
               have hit2 : w.heap.size + 2 ≤ wr.heap.size:=by omega
               obtain ⟨I2,hI2⟩ : ∃ I2,wr.heap.size = I2:=⟨_,rfl⟩
               rw [hI2] at zi hit2
               rw [hW2,hI2]
               have HQL:=Lh hq4l
               have HQS:=Lh hq4s
               have HPL:=Lh hpl2
               clear hW2 hI2 hit hbr r0 r1 r2 r3 hlt4 hnx hq4l hq4s hpl2
               go_loopw [11] (fun _ wq => ∃ (k u : Nat),k ≤ 4 ∧ u < 10737418250000 ∧ Hid (u < 1073741825 * 10 ^ k) ∧ wq.cell? ⟨w.heap.size,0,none⟩ = some (.int .i64 u) ∧ wq.cell? ⟨w.heap.size + 1,0,none⟩ = some (.int .i64 0) ∧ wq.frozen? ⟨w.heap.size,0,none⟩ = false ∧ wq.frozen? ⟨w.heap.size + 1,0,none⟩ = false ∧ wq.heap[I2]? = some (.stringIter q4 k) ∧ Below w.heap.size w wq ∧ Hid (u = val (a ++ (part4 p).take k))) (fun _ wq => 4 - wq.iterPos I2)
               case atStart => exact ⟨0,v,by omega,by omega,by show _ < _;omega,z0,z1,z2,z3,zi,zb,by show _ = _;rw [HV1.out];simp⟩
               case round =>
                 obtain ⟨k,u,hk,hu,HU,r0,r1,r2,r3,hit,hbr,HV⟩:=hrel
                 clear z0 z1 z2 z3 zi zb
                 by_cases hlt : k < 4
                 · have hpl4 : (part4 p).length = 4:=by simp [part4]
                   have hkk : k < (part4 p).length:=by omega
                   have hp4 : (part4 p).all isDig = true:=by
                     unfold part4;rw [List.all_eq_true];intro c hc
                     have:=List.mem_of_mem_take hc
                     rw [List.mem_append] at this
                     rcases this with h | h
                     · exact List.all_eq_true.1 (show p.all isDig = true from HP.out) c h
                     · simp at h;subst h;decide
                   have hg:=dig_bounds (List.all_eq_true.1 hp4 _ (List.getElem_mem hkk))
                   obtain ⟨c,hcc⟩ : ∃ c,(part4 p)[k] = c:=⟨_,rfl⟩
                   rw [hcc] at hg
                   obtain ⟨W1,hW1⟩ : ∃ W1,iterSet wr I2 q4 (k + 1) = W1:=⟨_,rfl⟩
                   have hcq : ∀ h,q4[k]'h = c:=fun h => by
                     rw [← hcc]
                     have : q4.data.toList[k]'(by simpa using h) = (part4 p)[k]:=by simp only [HQL.out]
                     exact this
                   have hks : k < q4.size:=by rw [HQS.out];omega
                   have hnx : ∀ ty,(Instr.next (.pointer (some ⟨I2,0,none⟩)) true ty).run Tryz.prog wr = .ok (.tuple #[.bool true,.int .i64 k,.int .i32 c.toNat]) W1:=fun ty => by
                     have:=next_at wr I2 k q4 ty hit hks (by rw [hcq];omega)
                     rw [hcq,hW1] at this;exact this
                   have q0 : W1.cell? ⟨w.heap.size,0,none⟩ = some (.int .i64 u):=by rw [← hW1,iterSet_cell _ _ _ _ _ _ (by omega)];exact r0
                   have q1 : W1.cell? ⟨w.heap.size + 1,0,none⟩ = some (.int .i64 0):=by rw [← hW1,iterSet_cell _ _ _ _ _ _ (by omega)];exact r1
                   have q2 : W1.frozen? ⟨w.heap.size,0,none⟩ = false:=by rw [← hW1,iterSet_frozen _ _ _ _ _ _ (by omega)];exact r2
                   have q3 : W1.frozen? ⟨w.heap.size + 1,0,none⟩ = false:=by rw [← hW1,iterSet_frozen _ _ _ _ _ _ (by omega)];exact r3
                   have qb : Below w.heap.size w W1:=by rw [← hW1];exact iterSet_below hbr (by omega) _ _
                   have qi : W1.heap[I2]? = some (.stringIter q4 (k + 1)):=by rw [← hW1];exact iterSet_same _ _ _ _ (lt_of_block hit)
                   have hvs : 10 * u + (c.toNat - 48) = val (a ++ (part4 p).take (k + 1)):=by rw [take_snoc' _ k hkk,hcc,← List.append_assoc,val_snoc,HV.out]
                   have HV2:=Lh hvs
                   have HIP:=Lh (And.intro hit qi)
                   have hub : 10 * u + (c.toNat - 48) < 1073741825 * 10 ^ (k + 1):=by have:=HU.out;rw [Nat.pow_succ];omega
                   have hub2 : 10 * u + (c.toNat - 48) < 10737418250000:=Nat.lt_of_lt_of_le hub (by
                     have : 10 ^ (k + 1) ≤ 10 ^ 4:=Nat.pow_le_pow_right (by decide) (by omega)
                     omega)
                   have HUB:=Lh hub
                   clear hW1 r0 r1 r2 r3 hbr HV hit qi hvs hub hcq hcc hp4 hkk hpl4 hks HU
                   go_wp2
                   go_roundw
                   case rel =>
                     refine ⟨k + 1,10 * u + (c.toNat - 48),by omega,hub2,HUB,?_,?_,?_,?_,?_,?_,HV2⟩
                     · rw [World.cell?_setCell_same _ _ _ q0];congr 2;omega
                     · rw [World.cell?_setCell_other _ _ _ _ (by simp)];exact q1
                     · rw [World.frozen?_setCell];exact q2
                     · rw [World.frozen?_setCell];exact q3
                     · rw [Below.heap_setCell _ _ _ _ (by show I2 ≠ w.heap.size;omega)];exact HIP.out.2
                     · exact qb.setCell (by simp) _
                   case measure =>
                     rw [iterPos_of (by rw [Below.heap_setCell _ _ _ _ (by show I2 ≠ w.heap.size;omega)];exact HIP.out.2),iterPos_of HIP.out.1];omega
                 · have hk2 : k = 4:=by omega
                   subst hk2
                   have hnx : ∀ ty,(Instr.next (.pointer (some ⟨I2,0,none⟩)) true ty).run Tryz.prog wr = .ok (.tuple #[.bool false]) wr:=fun ty => next_end wr _ 4 q4 ty hit (by rw [HQS.out];omega)
                   have HV1:=Lh (show u = val (a ++ part4 p) by have:=HV.out;rwa [List.take_of_length_le (by simp [part4])] at this)
                   have hb0 : w.heap.size < wr.heap.size:=by have:=lt_of_block hit;omega
                   have hb1 : w.heap.size + 1 < wr.heap.size:=by have:=lt_of_block hit;omega
                   clear HV HU
                   go_wp2_with fail
                   refine (trimR_as _ (rest p) (by rw [Lib.extract_to_end,HPL.out];rfl) (by simp;omega) _).mono ?_
                   rintro e w5 ⟨rfl,hb5⟩
                   obtain ⟨hc5,hf5⟩:=bcell hb5
                   have hbw5 : Below w.heap.size w w5:=hbr.trans (hb5.mono (by omega))
                   have q0 : w5.cell? ⟨w.heap.size,0,none⟩ = some (.int .i64 u):=(hc5 _ _ hb0).trans r0
                   have q1 : w5.cell? ⟨w.heap.size + 1,0,none⟩ = some (.int .i64 0):=(hc5 _ _ hb1).trans r1
                   have q2 : w5.frozen? ⟨w.heap.size,0,none⟩ = false:=(hf5 _ _ hb0).trans r2
                   have q3 : w5.frozen? ⟨w.heap.size + 1,0,none⟩ = false:=(hf5 _ _ hb1).trans r3
                   have hs0 : w.heap.size < w5.heap.size:=by have:=hb5.size;omega
                   have hs1 : w.heap.size + 1 < w5.heap.size:=by have:=hb5.size;omega
                   clear r0 r1 r2 r3 hc5 hf5 hb5 hit hbr hnx
                   cases hup : (!Op.bytesLess (rest p) [53])
                   · have HRV:=Lh (read_val HR.out hemp HA.out HP.out false false HM.out ((cmp_ge p HP.out).symm.trans hup) u HV1.out)
                     by_cases hbig : 1073741824 < u + (0 : Nat)
                     · have HX:=Lh (show R = .bad 2 by rw [HRV.out,if_pos (by simpa using hbig)])
                       go_wp2_with fail
                       refine (bounded_bad w5.heap.size (u : Int) _ (by simp [go_sem]) (by omega) (by omega) (by omega)).mono ?_
                       rintro e w6 ⟨rfl,rfl⟩
                       go_wp2
                       refine leaves_cons (f:=201) (args:=#[.pointer (some ⟨w.heap.size,0,none⟩),.pointer (some ⟨w.heap.size + 1,0,none⟩)]) (by simp) (by simp [go_sem]) ?_
                       refine (fface_catch _ _ _ _ _ ((u : Int)) 0 (by simp [go_sem,q0,q1,q2,q3,hs0,hs1]) (by simp [go_sem,q0,q1,q2,q3,hs0,hs1]) (by simp [go_sem,q0,q1,q2,q3,hs0,hs1]) (by simp [go_sem,q0,q1,q2,q3,hs0,hs1]) (by simp)).mono ?_
                       rintro e u' w'' ⟨rfl,rfl,rfl⟩
                       simp [Leaves,settle,results,Tryz.results166,go_sem,q0,q1,q2,q3,hs0,hs1]
                       exact ⟨by rw [HX.out];rfl,(by repeat' (first | (with_reducible first | exact Below.refl _ _ | refine Below.drew ?_ | refine belowDrewN ?_ _ | refine belowIter ?_ ?_ _ _ | refine Below.setCell ?_ ?_ _ | refine Below.alloc ?_ ?_ _ | refine bT hb4 ?_ ?_ | refine bT hbw5 ?_ ?_ | refine bT hb2 ?_ ?_ | refine bT hb1 ?_ ?_ | refine bT hbr ?_ ?_ | refine bT hb ?_ ?_) | (simp;done) | (simp;omega) | omega))⟩
                     · have HX:=Lh (show R = .good ((u : Int)) by rw [HRV.out,if_neg (by simpa using hbig)];simp)
                       go_wp2_with fail
                       refine (bounded_good w5.heap.size (u : Int) _ (by simp [go_sem]) (by omega) (by omega)).mono ?_
                       rintro e w6 ⟨rfl,rfl⟩
                       go_wp2
                       refine leaves_cons (f:=201) (args:=#[.pointer (some ⟨w.heap.size,0,none⟩),.pointer (some ⟨w.heap.size + 1,0,none⟩)]) (by simp) (by simp [go_sem]) ?_
                       refine (fface_idle _ _ _).mono ?_
                       rintro e u' w'' ⟨rfl,rfl,rfl⟩
                       simp [Leaves,settle,results,Tryz.results166,go_sem,q0,q1,q2,q3,hs0,hs1]
                       exact ⟨by rw [HX.out];rfl,(by repeat' (first | (with_reducible first | exact Below.refl _ _ | refine Below.drew ?_ | refine belowDrewN ?_ _ | refine belowIter ?_ ?_ _ _ | refine Below.setCell ?_ ?_ _ | refine Below.alloc ?_ ?_ _ | refine bT hb4 ?_ ?_ | refine bT hbw5 ?_ ?_ | refine bT hb2 ?_ ?_ | refine bT hb1 ?_ ?_ | refine bT hbr ?_ ?_ | refine bT hb ?_ ?_) | (simp;done) | (simp;omega) | omega))⟩
                   · have HRV:=Lh (read_val HR.out hemp HA.out HP.out false true HM.out ((cmp_ge p HP.out).symm.trans hup) u HV1.out)
                     by_cases hbig : 1073741824 < u + (1 : Nat)
                     · have HX:=Lh (show R = .bad 2 by rw [HRV.out,if_pos (by simpa using hbig)])
                       go_wp2_with fail
                       refine (bounded_bad w5.heap.size ((u : Int) + 1) _ (by simp [go_sem]) (by omega) (by omega) (by omega)).mono ?_
                       rintro e w6 ⟨rfl,rfl⟩
                       go_wp2
                       refine leaves_cons (f:=201) (args:=#[.pointer (some ⟨w.heap.size,0,none⟩),.pointer (some ⟨w.heap.size + 1,0,none⟩)]) (by simp) (by simp [go_sem]) ?_
                       refine (fface_catch _ _ _ _ _ ((u : Int) + 1) 0 (by simp [go_sem,q0,q1,q2,q3,hs0,hs1]) (by simp [go_sem,q0,q1,q2,q3,hs0,hs1]) (by simp [go_sem,q0,q1,q2,q3,hs0,hs1]) (by simp [go_sem,q0,q1,q2,q3,hs0,hs1]) (by simp)).mono ?_
                       rintro e u' w'' ⟨rfl,rfl,rfl⟩
                       simp [Leaves,settle,results,Tryz.results166,go_sem,q0,q1,q2,q3,hs0,hs1]
                       exact ⟨by rw [HX.out];rfl,(by repeat' (first | (with_reducible first | exact Below.refl _ _ | refine Below.drew ?_ | refine belowDrewN ?_ _ | refine belowIter ?_ ?_ _ _ | refine Below.setCell ?_ ?_ _ | refine Below.alloc ?_ ?_ _ | refine bT hb4 ?_ ?_ | refine bT hbw5 ?_ ?_ | refine bT hb2 ?_ ?_ | refine bT hb1 ?_ ?_ | refine bT hbr ?_ ?_ | refine bT hb ?_ ?_) | (simp;done) | (simp;omega) | omega))⟩
                     · have HX:=Lh (show R = .good ((u : Int) + 1) by rw [HRV.out,if_neg (by simpa using hbig)];simp)
                       go_wp2_with fail
                       refine (bounded_good w5.heap.size ((u : Int) + 1) _ (by simp [go_sem]) (by omega) (by omega)).mono ?_
                       rintro e w6 ⟨rfl,rfl⟩
                       go_wp2
                       refine leaves_cons (f:=201) (args:=#[.pointer (some ⟨w.heap.size,0,none⟩),.pointer (some ⟨w.heap.size + 1,0,none⟩)]) (by simp) (by simp [go_sem]) ?_
                       refine (fface_idle _ _ _).mono ?_
                       rintro e u' w'' ⟨rfl,rfl,rfl⟩
                       simp [Leaves,settle,results,Tryz.results166,go_sem,q0,q1,q2,q3,hs0,hs1]
                       exact ⟨by rw [HX.out];rfl,(by repeat' (first | (with_reducible first | exact Below.refl _ _ | refine Below.drew ?_ | refine belowDrewN ?_ _ | refine belowIter ?_ ?_ _ _ | refine Below.setCell ?_ ?_ _ | refine Below.alloc ?_ ?_ _ | refine bT hb4 ?_ ?_ | refine bT hbw5 ?_ ?_ | refine bT hb2 ?_ ?_ | refine bT hb1 ?_ ?_ | refine bT hbr ?_ ?_ | refine bT hb ?_ ?_) | (simp;done) | (simp;omega) | omega))⟩
   · obtain ⟨hun,hmi,hpos⟩:=hpre.2.1 h43
     have hpos2 : 1 ≤ s.size:=hpos
     obtain ⟨su,hsu⟩ : ∃ su,s.extract 1 s.size = su:=⟨_,rfl⟩
     have hsl2 : su.data.toList = s.data.toList.drop 1:=by rw [← hsu];exact Lib.extract_to_end _ _
     rw [hun,← hsl2] at ha hp
     have HCa:=Lh ha
     have HCp:=Lh hp
     have HM:=Lh hmi
     have H45:=Lh h45
     have H43:=Lh h43
     have hsl:=Lh (show su.size ≤ 40 by
       have : su.size = su.data.toList.length:=rfl
       rw [this,hsl2,List.length_drop]
       have : s.data.toList.length = s.size:=rfl
       omega)
     clear ha hp hun hmi h45 h43 hu hpre hsl2 hpos
     go_enter_defers Tryz.func166,Tryz.ntmps166
     by_cases hemp : (a ++ p).isEmpty = true
     · have hne:=catE_yes hemp
       have HX:=Lh (show R = .bad 3 by rw [← HR.out,if_pos hemp])
       clear hemp
       go_wp2_with (first | (go_at_call 42;first | (refine (pre_as _ [45] _ H45.out _).mono ?_;rintro e w' ⟨rfl,rfl⟩) | (refine (pre_as _ [43] _ H43.out _).mono ?_;rintro e w' ⟨rfl,rfl⟩)) | (go_at_call 202;refine (cutdot_in su a p HCa.out HCp.out hsl.out m _ hm2).mono ?_;rintro e w2 ⟨f,rfl,n1,rfl⟩))
       refine leaves_cons (f:=201) (args:=#[.pointer (some ⟨w.heap.size,0,none⟩),.pointer (some ⟨w.heap.size + 1,0,none⟩)]) (by simp) (by simp [go_sem]) ?_
       refine (fface_idle _ _ _).mono ?_
       rintro e u' w'' ⟨rfl,rfl,rfl⟩
       simp [Leaves,settle,results,Tryz.results166,go_sem]
       exact ⟨by rw [HX.out];rfl,bel⟩
     · cases hda : allDig a
       · have HX:=Lh (show R = .bad 3 by rw [← HR.out,if_neg hemp,hda];rfl)
         have hne:=catE_no hemp
         have HA:=Lh hda
         clear hda hemp
         go_wp2_with (first | (go_at_call 42;first | (refine (pre_as _ [45] _ H45.out _).mono ?_;rintro e w' ⟨rfl,rfl⟩) | (refine (pre_as _ [43] _ H43.out _).mono ?_;rintro e w' ⟨rfl,rfl⟩)) | (go_at_call 202;refine (cutdot_in su a p HCa.out HCp.out hsl.out m _ hm2).mono ?_;rintro e w2 ⟨f,rfl,n1,rfl⟩))
         refine (digits_in a (by omega) false HA.out _).mono ?_
         rintro e w3 ⟨rfl,hb3⟩
         obtain ⟨hc3,hf3⟩:=bcell hb3
         have hz3 : w.heap.size + 1 < w3.heap.size:=by have:=hb3.size;simp at this;omega
         have hz4 : w.heap.size < w3.heap.size:=by omega
         have q0 : w3.cell? ⟨w.heap.size,0,none⟩ = some (.int .i64 0):=by rw [hc3 _ _ (by simp <;> omega)];simp [go_sem]
         have q1 : w3.cell? ⟨w.heap.size + 1,0,none⟩ = some (.int .i64 0):=by rw [hc3 _ _ (by simp <;> omega)];simp [go_sem]
         have q2 : w3.frozen? ⟨w.heap.size,0,none⟩ = false:=by rw [hf3 _ _ (by simp <;> omega)];simp [go_sem]
         have q3 : w3.frozen? ⟨w.heap.size + 1,0,none⟩ = false:=by rw [hf3 _ _ (by simp <;> omega)];simp [go_sem]
         go_wp2
         refine leaves_cons (f:=201) (args:=#[.pointer (some ⟨w.heap.size,0,none⟩),.pointer (some ⟨w.heap.size + 1,0,none⟩)]) (by simp) (by simp [go_sem]) ?_
         refine (fface_idle _ _ _).mono ?_
         rintro e u' w'' ⟨rfl,rfl,rfl⟩
         simp [Leaves,settle,results,Tryz.results166,go_sem,q0,q1,q2,q3]
         exact ⟨by rw [HX.out];rfl,bel⟩
       · cases hdp : allDig p
         · have HX:=Lh (show R = .bad 3 by rw [← HR.out,if_neg hemp,hda,hdp];rfl)
           have hne:=catE_no hemp
           have HA:=Lh hda
           have HP:=Lh hdp
           clear hda hdp hemp
           go_wp2_with (first | (go_at_call 42;first | (refine (pre_as _ [45] _ H45.out _).mono ?_;rintro e w' ⟨rfl,rfl⟩) | (refine (pre_as _ [43] _ H43.out _).mono ?_;rintro e w' ⟨rfl,rfl⟩)) | (go_at_call 202;refine (cutdot_in su a p HCa.out HCp.out hsl.out m _ hm2).mono ?_;rintro e w2 ⟨f,rfl,n1,rfl⟩))
           refine (digits_in a (by omega) true HA.out _).mono ?_
           rintro e w3 ⟨rfl,hb3⟩
           have hz3 : w.heap.size + 2 ≤ w3.heap.size:=by have:=hb3.size;simp at this;omega
           go_wp2_with fail
           refine (digits_in p (by omega) false HP.out _).mono ?_
           rintro e w4 ⟨rfl,hb4⟩
           replace hb4:=hb3.trans (hb4.mono (by simp;omega))
           obtain ⟨hc4,hf4⟩:=bcell hb4
           have hz4 : w.heap.size + 1 < w4.heap.size:=by have:=hb4.size;simp at this;omega
           have hz5 : w.heap.size < w4.heap.size:=by omega
           clear hb3 hz3
           have q0 : w4.cell? ⟨w.heap.size,0,none⟩ = some (.int .i64 0):=by rw [hc4 _ _ (by simp <;> omega)];simp [go_sem]
           have q1 : w4.cell? ⟨w.heap.size + 1,0,none⟩ = some (.int .i64 0):=by rw [hc4 _ _ (by simp <;> omega)];simp [go_sem]
           have q2 : w4.frozen? ⟨w.heap.size,0,none⟩ = false:=by rw [hf4 _ _ (by simp <;> omega)];simp [go_sem]
           have q3 : w4.frozen? ⟨w.heap.size + 1,0,none⟩ = false:=by rw [hf4 _ _ (by simp <;> omega)];simp [go_sem]
           go_wp2
           refine leaves_cons (f:=201) (args:=#[.pointer (some ⟨w.heap.size,0,none⟩),.pointer (some ⟨w.heap.size + 1,0,none⟩)]) (by simp) (by simp [go_sem]) ?_
           refine (fface_idle _ _ _).mono ?_
           rintro e u' w'' ⟨rfl,rfl,rfl⟩
           simp [Leaves,settle,results,Tryz.results166,go_sem,q0,q1,q2,q3]
           exact ⟨by rw [HX.out];rfl,(by repeat' (first | (with_reducible first | exact Below.refl _ _ | refine Below.drew ?_ | refine belowDrewN ?_ _ | refine belowIter ?_ ?_ _ _ | refine Below.setCell ?_ ?_ _ | refine Below.alloc ?_ ?_ _ | refine bT hb4 ?_ ?_ | refine bT hb2 ?_ ?_ | refine bT hb1 ?_ ?_ | refine bT hbr ?_ ?_ | refine bT hb ?_ ?_) | (simp;done) | (simp;omega) | omega))⟩
         · have HA:=Lh hda
           have HP:=Lh hdp
           clear hda hdp
           have hne:=catE_no hemp
           go_wp2_with (first | (go_at_call 42;first | (refine (pre_as _ [45] _ H45.out _).mono ?_;rintro e w' ⟨rfl,rfl⟩) | (refine (pre_as _ [43] _ H43.out _).mono ?_;rintro e w' ⟨rfl,rfl⟩)) | (go_at_call 202;refine (cutdot_in su a p HCa.out HCp.out hsl.out m _ hm2).mono ?_;rintro e w2 ⟨f,rfl,n1,rfl⟩))
           refine (digits_in a (by omega) true HA.out _).mono ?_
           rintro e w3 ⟨rfl,hb3⟩
           obtain ⟨hc3,hf3⟩:=bcell hb3
           have hz3 : w.heap.size + 2 ≤ w3.heap.size:=by have:=hb3.size;simp at this;omega
           go_wp2_with fail
           refine (digits_in p (by omega) true HP.out _).mono ?_
           rintro e w4 ⟨rfl,hb4⟩
           replace hb4:=hb3.trans (hb4.mono (by simp;omega))
           obtain ⟨hc4,hf4⟩:=bcell hb4
           have hz4 : w.heap.size + 2 ≤ w4.heap.size:=by have:=hb4.size;simp at this;omega
           clear hb3 hc3 hf3 hz3
           go_wp2
           have hbw : Below w.heap.size w w4:=(by repeat' (first | (with_reducible first | exact Below.refl _ _ | refine Below.drew ?_ | refine belowDrewN ?_ _ | refine belowIter ?_ ?_ _ _ | refine Below.setCell ?_ ?_ _ | refine Below.alloc ?_ ?_ _ | refine bT hb4 ?_ ?_ | refine bT hb2 ?_ ?_ | refine bT hb1 ?_ ?_ | refine bT hbr ?_ ?_ | refine bT hb ?_ ?_) | (simp;done) | (simp;omega) | omega))
           have n0 : (w4.iter ⟨a.toArray⟩ 0).cell? ⟨w.heap.size,0,none⟩ = some (.int .i64 0):=by
             rw [World.iter,World.cell?_alloc_past _ _ _ (by omega),hc4 _ _ (by simp <;> omega)];simp [go_sem]
           have n1' : (w4.iter ⟨a.toArray⟩ 0).cell? ⟨w.heap.size + 1,0,none⟩ = some (.int .i64 0):=by
             rw [World.iter,World.cell?_alloc_past _ _ _ (by omega),hc4 _ _ (by simp <;> omega)];simp [go_sem]
           have n2 : (w4.iter ⟨a.toArray⟩ 0).frozen? ⟨w.heap.size,0,none⟩ = false:=by
             rw [World.iter,World.frozen?_alloc_past _ _ _ (by omega),hf4 _ _ (by simp <;> omega)];simp [go_sem]
           have n3 : (w4.iter ⟨a.toArray⟩ 0).frozen? ⟨w.heap.size + 1,0,none⟩ = false:=by
             rw [World.iter,World.frozen?_alloc_past _ _ _ (by omega),hf4 _ _ (by simp <;> omega)];simp [go_sem]
           go_loopw [9] (fun _ wr => ∃ (k v : Nat),k ≤ a.length ∧ v ≤ 1073741824 ∧ wr.cell? ⟨w.heap.size,0,none⟩ = some (.int .i64 v) ∧ wr.cell? ⟨w.heap.size + 1,0,none⟩ = some (.int .i64 0) ∧ wr.frozen? ⟨w.heap.size,0,none⟩ = false ∧ wr.frozen? ⟨w.heap.size + 1,0,none⟩ = false ∧ wr.heap[w4.heap.size]? = some (.stringIter ⟨a.toArray⟩ k) ∧ Below w.heap.size w wr ∧ Hid (v = val (a.take k))) (fun _ wr => a.length - wr.iterPos w4.heap.size)
           case atStart => exact ⟨0,0,by omega,by omega,n0,n1',n2,n3,World.iter_heap _ _ _,belowIter hbw (by omega) _ _,by show _ = _;simp [val]⟩
           case round =>
             obtain ⟨k,v,hk,hv,r0,r1,r2,r3,hit,hbr,HV⟩:=hrel
             clear n0 n1' n2 n3
             by_cases hlt : k < a.length
             · have hg:=dig_bounds (List.all_eq_true.1 (show a.all isDig = true from HA.out) _ (List.getElem_mem hlt))
               obtain ⟨W1,hW1⟩ : ∃ W1,iterSet wr w4.heap.size ⟨a.toArray⟩ (k + 1) = W1:=⟨_,rfl⟩
               have hnx : ∀ ty,(Instr.next (.pointer (some ⟨w4.heap.size,0,none⟩)) true ty).run Tryz.prog wr = .ok (.tuple #[.bool true,.int .i64 k,.int .i32 a[k].toNat]) W1:=fun ty => by
                 rw [← hW1];exact next_at wr _ k ⟨a.toArray⟩ ty hit (by show k < a.toArray.size;simpa using hlt) (by show a[k].toNat < 128;omega)
               have q0 : W1.cell? ⟨w.heap.size,0,none⟩ = some (.int .i64 v):=by rw [← hW1,iterSet_cell _ _ _ _ _ _ (by omega)];exact r0
               have q1 : W1.cell? ⟨w.heap.size + 1,0,none⟩ = some (.int .i64 0):=by rw [← hW1,iterSet_cell _ _ _ _ _ _ (by omega)];exact r1
               have q2 : W1.frozen? ⟨w.heap.size,0,none⟩ = false:=by rw [← hW1,iterSet_frozen _ _ _ _ _ _ (by omega)];exact r2
               have q3 : W1.frozen? ⟨w.heap.size + 1,0,none⟩ = false:=by rw [← hW1,iterSet_frozen _ _ _ _ _ _ (by omega)];exact r3
               have qb : Below w.heap.size w W1:=by rw [← hW1];exact iterSet_below hbr (by omega) _ _
               have qi : W1.heap[w4.heap.size]? = some (.stringIter ⟨a.toArray⟩ (k + 1)):=by rw [← hW1];exact iterSet_same _ _ _ _ (lt_of_block hit)
               have HV2:=Lh (show 10 * v + (a[k].toNat - 48) = val (a.take (k + 1)) by rw [take_snoc' a k hlt,val_snoc,HV.out])
               have HIP:=Lh (And.intro hit qi)
               clear hW1 r0 r1 r2 r3 hbr HV hit qi
               by_cases hbig : 1073741824 < 10 * v + (a[k].toNat - 48)
               · have HX := Lib.hid (show R = .bad 2 by
                   rw [← HR.out,if_neg (by simpa using hemp),HA.out,HP.out]
                   have : val (a.take (k + 1)) ≤ val (a ++ part4 p):=by
                     conv => rhs;rw [← List.take_append_drop (k + 1) a,List.append_assoc]
                     exact val_le_append _ _
                   have h2:=HV2.out
                   simp only [Bool.not_true,Bool.or_self,Bool.false_eq_true,if_false]
                   rw [if_pos (by split <;> split <;> omega)])
                 go_wp2
                 refine leaves_cons (f:=201) (args:=#[.pointer (some ⟨w.heap.size,0,none⟩),.pointer (some ⟨w.heap.size + 1,0,none⟩)]) (by simp) (by simp [go_sem]) ?_
                 refine (fface_idle _ _ _).mono ?_
                 rintro e u' w'' ⟨rfl,rfl,rfl⟩
                 simp [Leaves,settle,results,Tryz.results166,go_sem,q0,q1,q2,q3]
                 exact ⟨by rw [HX.out];rfl,(by repeat' (first | (with_reducible first | exact Below.refl _ _ | refine Below.drew ?_ | refine belowDrewN ?_ _ | refine belowIter ?_ ?_ _ _ | refine Below.setCell ?_ ?_ _ | refine Below.alloc ?_ ?_ _ | refine bT hb4 ?_ ?_ | refine bT qb ?_ ?_ | refine bT hb2 ?_ ?_ | refine bT hb1 ?_ ?_ | refine bT hbr ?_ ?_ | refine bT hb ?_ ?_) | (simp;done) | (simp;omega) | omega))⟩
               · go_wp2
                 go_roundw
                 case rel =>
                   refine ⟨k + 1,10 * v + (a[k].toNat - 48),by omega,by omega,?_,?_,?_,?_,?_,?_,HV2⟩
                   · rw [World.cell?_setCell_same _ _ _ q0];congr 2;omega
                   · rw [World.cell?_setCell_other _ _ _ _ (by simp)];exact q1
                   · rw [World.frozen?_setCell];exact q2
                   · rw [World.frozen?_setCell];exact q3
                   · rw [Below.heap_setCell _ _ _ _ (by show w4.heap.size ≠ w.heap.size;omega)];exact HIP.out.2
                   · exact qb.setCell (by simp) _
                 case measure =>
                   rw [iterPos_of (by rw [Below.heap_setCell _ _ _ _ (by show w4.heap.size ≠ w.heap.size;omega)];exact HIP.out.2),iterPos_of HIP.out.1];omega
             · have hk2 : k = a.length:=by omega
               subst hk2
               have hnx : ∀ ty,(Instr.next (.pointer (some ⟨w4.heap.size,0,none⟩)) true ty).run Tryz.prog wr = .ok (.tuple #[.bool false]) wr:=fun ty => next_end wr _ a.length ⟨a.toArray⟩ ty hit (by show ¬ a.length < a.toArray.size;simp)
               have HV1:=Lh (show v = val a by have:=HV.out;rwa [List.take_length] at this)
               clear HV
               go_wp2
               obtain ⟨pp,hpp⟩ : ∃ pp,(ByteArray.mk p.toArray) ++ (ByteArray.mk #[48,48,48,48,48]) = pp:=⟨_,rfl⟩
               rw [hpp]
               have hpl2 : pp.data.toList = p ++ [48,48,48,48,48]:=by rw [← hpp];simp
               have hps : p.length + 5 = pp.size:=by show _ = pp.data.toList.length;rw [hpl2];simp
               obtain ⟨q4,hq4⟩ : ∃ q4,pp.extract 0 4 = q4:=⟨_,rfl⟩
               have hq4l : q4.data.toList = part4 p:=by rw [← hq4,Lib.extract_data,List.drop_zero,hpl2];exact part4_eq p
               have hq4s : q4.size = 4:=by show q4.data.toList.length = 4;rw [hq4l];simp [part4]
               rw [hq4]
               clear hpp hq4
               obtain ⟨W2,hW2⟩ : ∃ W2,wr.iter q4 0 = W2:=⟨_,rfl⟩
               have hlt4:=lt_of_block hit
               have z0 : W2.cell? ⟨w.heap.size,0,none⟩ = some (.int .i64 v):=by rw [← hW2,World.iter,World.cell?_alloc_past _ _ _ (by omega)];exact r0
               have z1 : W2.cell? ⟨w.heap.size + 1,0,none⟩ = some (.int .i64 0):=by rw [← hW2,World.iter,World.cell?_alloc_past _ _ _ (by omega)];exact r1
               have z2 : W2.frozen? ⟨w.heap.size,0,none⟩ = false:=by rw [← hW2,World.iter,World.frozen?_alloc_past _ _ _ (by omega)];exact r2
               have z3 : W2.frozen? ⟨w.heap.size + 1,0,none⟩ = false:=by rw [← hW2,World.iter,World.frozen?_alloc_past _ _ _ (by omega)];exact r3
               have zb : Below w.heap.size w W2:=by rw [← hW2];exact belowIter hbr (by omega) _ _
               have zi : W2.heap[wr.heap.size]? = some (.stringIter q4 0):=by rw [← hW2];exact World.iter_heap _ _ _
               have hit2 : w.heap.size + 2 ≤ wr.heap.size:=by omega
               obtain ⟨I2,hI2⟩ : ∃ I2,wr.heap.size = I2:=⟨_,rfl⟩
               rw [hI2] at zi hit2
               rw [hW2,hI2]
               have HQL:=Lh hq4l
               have HQS:=Lh hq4s
               have HPL:=Lh hpl2
               clear hW2 hI2 hit hbr r0 r1 r2 r3 hlt4 hnx hq4l hq4s hpl2
               go_loopw [11] (fun _ wq => ∃ (k u : Nat),k ≤ 4 ∧ u < 10737418250000 ∧ Hid (u < 1073741825 * 10 ^ k) ∧ wq.cell? ⟨w.heap.size,0,none⟩ = some (.int .i64 u) ∧ wq.cell? ⟨w.heap.size + 1,0,none⟩ = some (.int .i64 0) ∧ wq.frozen? ⟨w.heap.size,0,none⟩ = false ∧ wq.frozen? ⟨w.heap.size + 1,0,none⟩ = false ∧ wq.heap[I2]? = some (.stringIter q4 k) ∧ Below w.heap.size w wq ∧ Hid (u = val (a ++ (part4 p).take k))) (fun _ wq => 4 - wq.iterPos I2)
               case atStart => exact ⟨0,v,by omega,by omega,by show _ < _;omega,z0,z1,z2,z3,zi,zb,by show _ = _;rw [HV1.out];simp⟩
               case round =>
                 obtain ⟨k,u,hk,hu,HU,r0,r1,r2,r3,hit,hbr,HV⟩:=hrel
                 clear z0 z1 z2 z3 zi zb
                 by_cases hlt : k < 4
                 · have hpl4 : (part4 p).length = 4:=by simp [part4]
                   have hkk : k < (part4 p).length:=by omega
                   have hp4 : (part4 p).all isDig = true:=by
                     unfold part4;rw [List.all_eq_true];intro c hc
                     have:=List.mem_of_mem_take hc
                     rw [List.mem_append] at this
                     rcases this with h | h
                     · exact List.all_eq_true.1 (show p.all isDig = true from HP.out) c h
                     · simp at h;subst h;decide
                   have hg:=dig_bounds (List.all_eq_true.1 hp4 _ (List.getElem_mem hkk))
                   obtain ⟨c,hcc⟩ : ∃ c,(part4 p)[k] = c:=⟨_,rfl⟩
                   rw [hcc] at hg
                   obtain ⟨W1,hW1⟩ : ∃ W1,iterSet wr I2 q4 (k + 1) = W1:=⟨_,rfl⟩
                   have hcq : ∀ h,q4[k]'h = c:=fun h => by
                     rw [← hcc]
                     have : q4.data.toList[k]'(by simpa using h) = (part4 p)[k]:=by simp only [HQL.out]
                     exact this
                   have hks : k < q4.size:=by rw [HQS.out];omega
                   have hnx : ∀ ty,(Instr.next (.pointer (some ⟨I2,0,none⟩)) true ty).run Tryz.prog wr = .ok (.tuple #[.bool true,.int .i64 k,.int .i32 c.toNat]) W1:=fun ty => by
                     have:=next_at wr I2 k q4 ty hit hks (by rw [hcq];omega)
                     rw [hcq,hW1] at this;exact this
                   have q0 : W1.cell? ⟨w.heap.size,0,none⟩ = some (.int .i64 u):=by rw [← hW1,iterSet_cell _ _ _ _ _ _ (by omega)];exact r0
                   have q1 : W1.cell? ⟨w.heap.size + 1,0,none⟩ = some (.int .i64 0):=by rw [← hW1,iterSet_cell _ _ _ _ _ _ (by omega)];exact r1
                   have q2 : W1.frozen? ⟨w.heap.size,0,none⟩ = false:=by rw [← hW1,iterSet_frozen _ _ _ _ _ _ (by omega)];exact r2
                   have q3 : W1.frozen? ⟨w.heap.size + 1,0,none⟩ = false:=by rw [← hW1,iterSet_frozen _ _ _ _ _ _ (by omega)];exact r3
                   have qb : Below w.heap.size w W1:=by rw [← hW1];exact iterSet_below hbr (by omega) _ _
                   have qi : W1.heap[I2]? = some (.stringIter q4 (k + 1)):=by rw [← hW1];exact iterSet_same _ _ _ _ (lt_of_block hit)
                   have hvs : 10 * u + (c.toNat - 48) = val (a ++ (part4 p).take (k + 1)):=by rw [take_snoc' _ k hkk,hcc,← List.append_assoc,val_snoc,HV.out]
                   have HV2:=Lh hvs
                   have HIP:=Lh (And.intro hit qi)
                   have hub : 10 * u + (c.toNat - 48) < 1073741825 * 10 ^ (k + 1):=by have:=HU.out;rw [Nat.pow_succ];omega
                   have hub2 : 10 * u + (c.toNat - 48) < 10737418250000:=Nat.lt_of_lt_of_le hub (by
                     have : 10 ^ (k + 1) ≤ 10 ^ 4:=Nat.pow_le_pow_right (by decide) (by omega)
                     omega)
                   have HUB:=Lh hub
                   clear hW1 r0 r1 r2 r3 hbr HV hit qi hvs hub hcq hcc hp4 hkk hpl4 hks HU
                   go_wp2
                   go_roundw
                   case rel =>
                     refine ⟨k + 1,10 * u + (c.toNat - 48),by omega,hub2,HUB,?_,?_,?_,?_,?_,?_,HV2⟩
                     · rw [World.cell?_setCell_same _ _ _ q0];congr 2;omega
                     · rw [World.cell?_setCell_other _ _ _ _ (by simp)];exact q1
                     · rw [World.frozen?_setCell];exact q2
                     · rw [World.frozen?_setCell];exact q3
                     · rw [Below.heap_setCell _ _ _ _ (by show I2 ≠ w.heap.size;omega)];exact HIP.out.2
                     · exact qb.setCell (by simp) _
                   case measure =>
                     rw [iterPos_of (by rw [Below.heap_setCell _ _ _ _ (by show I2 ≠ w.heap.size;omega)];exact HIP.out.2),iterPos_of HIP.out.1];omega
                 · have hk2 : k = 4:=by omega
                   subst hk2
                   have hnx : ∀ ty,(Instr.next (.pointer (some ⟨I2,0,none⟩)) true ty).run Tryz.prog wr = .ok (.tuple #[.bool false]) wr:=fun ty => next_end wr _ 4 q4 ty hit (by rw [HQS.out];omega)
                   have HV1:=Lh (show u = val (a ++ part4 p) by have:=HV.out;rwa [List.take_of_length_le (by simp [part4])] at this)
                   have hb0 : w.heap.size < wr.heap.size:=by have:=lt_of_block hit;omega
                   have hb1 : w.heap.size + 1 < wr.heap.size:=by have:=lt_of_block hit;omega
                   clear HV HU
                   go_wp2_with fail
                   refine (trimR_as _ (rest p) (by rw [Lib.extract_to_end,HPL.out];rfl) (by simp;omega) _).mono ?_
                   rintro e w5 ⟨rfl,hb5⟩
                   obtain ⟨hc5,hf5⟩:=bcell hb5
                   have hbw5 : Below w.heap.size w w5:=hbr.trans (hb5.mono (by omega))
                   have q0 : w5.cell? ⟨w.heap.size,0,none⟩ = some (.int .i64 u):=(hc5 _ _ hb0).trans r0
                   have q1 : w5.cell? ⟨w.heap.size + 1,0,none⟩ = some (.int .i64 0):=(hc5 _ _ hb1).trans r1
                   have q2 : w5.frozen? ⟨w.heap.size,0,none⟩ = false:=(hf5 _ _ hb0).trans r2
                   have q3 : w5.frozen? ⟨w.heap.size + 1,0,none⟩ = false:=(hf5 _ _ hb1).trans r3
                   have hs0 : w.heap.size < w5.heap.size:=by have:=hb5.size;omega
                   have hs1 : w.heap.size + 1 < w5.heap.size:=by have:=hb5.size;omega
                   clear r0 r1 r2 r3 hc5 hf5 hb5 hit hbr hnx
                   cases hup : (!Op.bytesLess (rest p) [53])
                   · have HRV:=Lh (read_val HR.out hemp HA.out HP.out false false HM.out ((cmp_ge p HP.out).symm.trans hup) u HV1.out)
                     by_cases hbig : 1073741824 < u + (0 : Nat)
                     · have HX:=Lh (show R = .bad 2 by rw [HRV.out,if_pos (by simpa using hbig)])
                       go_wp2_with fail
                       refine (bounded_bad w5.heap.size (u : Int) _ (by simp [go_sem]) (by omega) (by omega) (by omega)).mono ?_
                       rintro e w6 ⟨rfl,rfl⟩
                       go_wp2
                       refine leaves_cons (f:=201) (args:=#[.pointer (some ⟨w.heap.size,0,none⟩),.pointer (some ⟨w.heap.size + 1,0,none⟩)]) (by simp) (by simp [go_sem]) ?_
                       refine (fface_catch _ _ _ _ _ ((u : Int)) 0 (by simp [go_sem,q0,q1,q2,q3,hs0,hs1]) (by simp [go_sem,q0,q1,q2,q3,hs0,hs1]) (by simp [go_sem,q0,q1,q2,q3,hs0,hs1]) (by simp [go_sem,q0,q1,q2,q3,hs0,hs1]) (by simp)).mono ?_
                       rintro e u' w'' ⟨rfl,rfl,rfl⟩
                       simp [Leaves,settle,results,Tryz.results166,go_sem,q0,q1,q2,q3,hs0,hs1]
                       exact ⟨by rw [HX.out];rfl,(by repeat' (first | (with_reducible first | exact Below.refl _ _ | refine Below.drew ?_ | refine belowDrewN ?_ _ | refine belowIter ?_ ?_ _ _ | refine Below.setCell ?_ ?_ _ | refine Below.alloc ?_ ?_ _ | refine bT hb4 ?_ ?_ | refine bT hbw5 ?_ ?_ | refine bT hb2 ?_ ?_ | refine bT hb1 ?_ ?_ | refine bT hbr ?_ ?_ | refine bT hb ?_ ?_) | (simp;done) | (simp;omega) | omega))⟩
                     · have HX:=Lh (show R = .good ((u : Int)) by rw [HRV.out,if_neg (by simpa using hbig)];simp)
                       go_wp2_with fail
                       refine (bounded_good w5.heap.size (u : Int) _ (by simp [go_sem]) (by omega) (by omega)).mono ?_
                       rintro e w6 ⟨rfl,rfl⟩
                       go_wp2
                       refine leaves_cons (f:=201) (args:=#[.pointer (some ⟨w.heap.size,0,none⟩),.pointer (some ⟨w.heap.size + 1,0,none⟩)]) (by simp) (by simp [go_sem]) ?_
                       refine (fface_idle _ _ _).mono ?_
                       rintro e u' w'' ⟨rfl,rfl,rfl⟩
                       simp [Leaves,settle,results,Tryz.results166,go_sem,q0,q1,q2,q3,hs0,hs1]
                       exact ⟨by rw [HX.out];rfl,(by repeat' (first | (with_reducible first | exact Below.refl _ _ | refine Below.drew ?_ | refine belowDrewN ?_ _ | refine belowIter ?_ ?_ _ _ | refine Below.setCell ?_ ?_ _ | refine Below.alloc ?_ ?_ _ | refine bT hb4 ?_ ?_ | refine bT hbw5 ?_ ?_ | refine bT hb2 ?_ ?_ | refine bT hb1 ?_ ?_ | refine bT hbr ?_ ?_ | refine bT hb ?_ ?_) | (simp;done) | (simp;omega) | omega))⟩
                   · have HRV:=Lh (read_val HR.out hemp HA.out HP.out false true HM.out ((cmp_ge p HP.out).symm.trans hup) u HV1.out)
                     by_cases hbig : 1073741824 < u + (1 : Nat)
                     · have HX:=Lh (show R = .bad 2 by rw [HRV.out,if_pos (by simpa using hbig)])
                       go_wp2_with fail
                       refine (bounded_bad w5.heap.size ((u : Int) + 1) _ (by simp [go_sem]) (by omega) (by omega) (by omega)).mono ?_
                       rintro e w6 ⟨rfl,rfl⟩
                       go_wp2
                       refine leaves_cons (f:=201) (args:=#[.pointer (some ⟨w.heap.size,0,none⟩),.pointer (some ⟨w.heap.size + 1,0,none⟩)]) (by simp) (by simp [go_sem]) ?_
                       refine (fface_catch _ _ _ _ _ ((u : Int) + 1) 0 (by simp [go_sem,q0,q1,q2,q3,hs0,hs1]) (by simp [go_sem,q0,q1,q2,q3,hs0,hs1]) (by simp [go_sem,q0,q1,q2,q3,hs0,hs1]) (by simp [go_sem,q0,q1,q2,q3,hs0,hs1]) (by simp)).mono ?_
                       rintro e u' w'' ⟨rfl,rfl,rfl⟩
                       simp [Leaves,settle,results,Tryz.results166,go_sem,q0,q1,q2,q3,hs0,hs1]
                       exact ⟨by rw [HX.out];rfl,(by repeat' (first | (with_reducible first | exact Below.refl _ _ | refine Below.drew ?_ | refine belowDrewN ?_ _ | refine belowIter ?_ ?_ _ _ | refine Below.setCell ?_ ?_ _ | refine Below.alloc ?_ ?_ _ | refine bT hb4 ?_ ?_ | refine bT hbw5 ?_ ?_ | refine bT hb2 ?_ ?_ | refine bT hb1 ?_ ?_ | refine bT hbr ?_ ?_ | refine bT hb ?_ ?_) | (simp;done) | (simp;omega) | omega))⟩
                     · have HX:=Lh (show R = .good ((u : Int) + 1) by rw [HRV.out,if_neg (by simpa using hbig)];simp)
                       go_wp2_with fail
                       refine (bounded_good w5.heap.size ((u : Int) + 1) _ (by simp [go_sem]) (by omega) (by omega)).mono ?_
                       rintro e w6 ⟨rfl,rfl⟩
                       go_wp2
                       refine leaves_cons (f:=201) (args:=#[.pointer (some ⟨w.heap.size,0,none⟩),.pointer (some ⟨w.heap.size + 1,0,none⟩)]) (by simp) (by simp [go_sem]) ?_
                       refine (fface_idle _ _ _).mono ?_
                       rintro e u' w'' ⟨rfl,rfl,rfl⟩
                       simp [Leaves,settle,results,Tryz.results166,go_sem,q0,q1,q2,q3,hs0,hs1]
                       exact ⟨by rw [HX.out];rfl,(by repeat' (first | (with_reducible first | exact Below.refl _ _ | refine Below.drew ?_ | refine belowDrewN ?_ _ | refine belowIter ?_ ?_ _ _ | refine Below.setCell ?_ ?_ _ | refine Below.alloc ?_ ?_ _ | refine bT hb4 ?_ ?_ | refine bT hbw5 ?_ ?_ | refine bT hb2 ?_ ?_ | refine bT hb1 ?_ ?_ | refine bT hbr ?_ ?_ | refine bT hb ?_ ?_) | (simp;done) | (simp;omega) | omega))⟩
 · obtain ⟨hun,hmi,hpos⟩:=hpre.2.2 h45
   have h43 : ([43] : L).isPrefixOf s.data.toList = false:=by
     cases h : s.data.toList with
     | nil => rfl
     | cons c l => rw [h] at h45;simp [List.isPrefixOf] at h45 ⊢;rintro rfl;simp at h45
   have hpos2 : 1 ≤ s.size:=hpos
   obtain ⟨su,hsu⟩ : ∃ su,s.extract 1 s.size = su:=⟨_,rfl⟩
   have hsl2 : su.data.toList = s.data.toList.drop 1:=by rw [← hsu];exact Lib.extract_to_end _ _
   rw [hun,← hsl2] at ha hp
   have HCa:=Lh ha
   have HCp:=Lh hp
   have HM:=Lh hmi
   have H45:=Lh h45
   have H43:=Lh h43
   have hsl:=Lh (show su.size ≤ 40 by
     have : su.size = su.data.toList.length:=rfl
     rw [this,hsl2,List.length_drop]
     have : s.data.toList.length = s.size:=rfl
     omega)
   clear ha hp hun hmi h45 h43 hu hpre hsl2 hpos
   go_enter_defers Tryz.func166,Tryz.ntmps166
   by_cases hemp : (a ++ p).isEmpty = true
   · have hne:=catE_yes hemp
     have HX:=Lh (show R = .bad 3 by rw [← HR.out,if_pos hemp])
     clear hemp
     go_wp2_with (first | (go_at_call 42;first | (refine (pre_as _ [45] _ H45.out _).mono ?_;rintro e w' ⟨rfl,rfl⟩) | (refine (pre_as _ [43] _ H43.out _).mono ?_;rintro e w' ⟨rfl,rfl⟩)) | (go_at_call 202;refine (cutdot_in su a p HCa.out HCp.out hsl.out m _ hm2).mono ?_;rintro e w2 ⟨f,rfl,n1,rfl⟩))
     refine leaves_cons (f:=201) (args:=#[.pointer (some ⟨w.heap.size,0,none⟩),.pointer (some ⟨w.heap.size + 1,0,none⟩)]) (by simp) (by simp [go_sem]) ?_
     refine (fface_idle _ _ _).mono ?_
     rintro e u' w'' ⟨rfl,rfl,rfl⟩
     simp [Leaves,settle,results,Tryz.results166,go_sem]
     exact ⟨by rw [HX.out];rfl,bel⟩
   · cases hda : allDig a
     · have HX:=Lh (show R = .bad 3 by rw [← HR.out,if_neg hemp,hda];rfl)
       have hne:=catE_no hemp
       have HA:=Lh hda
       clear hda hemp
       go_wp2_with (first | (go_at_call 42;first | (refine (pre_as _ [45] _ H45.out _).mono ?_;rintro e w' ⟨rfl,rfl⟩) | (refine (pre_as _ [43] _ H43.out _).mono ?_;rintro e w' ⟨rfl,rfl⟩)) | (go_at_call 202;refine (cutdot_in su a p HCa.out HCp.out hsl.out m _ hm2).mono ?_;rintro e w2 ⟨f,rfl,n1,rfl⟩))
       refine (digits_in a (by omega) false HA.out _).mono ?_
       rintro e w3 ⟨rfl,hb3⟩
       obtain ⟨hc3,hf3⟩:=bcell hb3
       have hz3 : w.heap.size + 1 < w3.heap.size:=by have:=hb3.size;simp at this;omega
       have hz4 : w.heap.size < w3.heap.size:=by omega
       have q0 : w3.cell? ⟨w.heap.size,0,none⟩ = some (.int .i64 0):=by rw [hc3 _ _ (by simp <;> omega)];simp [go_sem]
       have q1 : w3.cell? ⟨w.heap.size + 1,0,none⟩ = some (.int .i64 0):=by rw [hc3 _ _ (by simp <;> omega)];simp [go_sem]
       have q2 : w3.frozen? ⟨w.heap.size,0,none⟩ = false:=by rw [hf3 _ _ (by simp <;> omega)];simp [go_sem]
       have q3 : w3.frozen? ⟨w.heap.size + 1,0,none⟩ = false:=by rw [hf3 _ _ (by simp <;> omega)];simp [go_sem]
       go_wp2
       refine leaves_cons (f:=201) (args:=#[.pointer (some ⟨w.heap.size,0,none⟩),.pointer (some ⟨w.heap.size + 1,0,none⟩)]) (by simp) (by simp [go_sem]) ?_
       refine (fface_idle _ _ _).mono ?_
       rintro e u' w'' ⟨rfl,rfl,rfl⟩
       simp [Leaves,settle,results,Tryz.results166,go_sem,q0,q1,q2,q3]
       exact ⟨by rw [HX.out];rfl,bel⟩
     · cases hdp : allDig p
       · have HX:=Lh (show R = .bad 3 by rw [← HR.out,if_neg hemp,hda,hdp];rfl)
         have hne:=catE_no hemp
         have HA:=Lh hda
         have HP:=Lh hdp
         clear hda hdp hemp
         go_wp2_with (first | (go_at_call 42;first | (refine (pre_as _ [45] _ H45.out _).mono ?_;rintro e w' ⟨rfl,rfl⟩) | (refine (pre_as _ [43] _ H43.out _).mono ?_;rintro e w' ⟨rfl,rfl⟩)) | (go_at_call 202;refine (cutdot_in su a p HCa.out HCp.out hsl.out m _ hm2).mono ?_;rintro e w2 ⟨f,rfl,n1,rfl⟩))
         refine (digits_in a (by omega) true HA.out _).mono ?_
         rintro e w3 ⟨rfl,hb3⟩
         have hz3 : w.heap.size + 2 ≤ w3.heap.size:=by have:=hb3.size;simp at this;omega
         go_wp2_with fail
         refine (digits_in p (by omega) false HP.out _).mono ?_
         rintro e w4 ⟨rfl,hb4⟩
         replace hb4:=hb3.trans (hb4.mono (by simp;omega))
         obtain ⟨hc4,hf4⟩:=bcell hb4
         have hz4 : w.heap.size + 1 < w4.heap.size:=by have:=hb4.size;simp at this;omega
         have hz5 : w.heap.size < w4.heap.size:=by omega
         clear hb3 hz3
         have q0 : w4.cell? ⟨w.heap.size,0,none⟩ = some (.int .i64 0):=by rw [hc4 _ _ (by simp <;> omega)];simp [go_sem]
         have q1 : w4.cell? ⟨w.heap.size + 1,0,none⟩ = some (.int .i64 0):=by rw [hc4 _ _ (by simp <;> omega)];simp [go_sem]
         have q2 : w4.frozen? ⟨w.heap.size,0,none⟩ = false:=by rw [hf4 _ _ (by simp <;> omega)];simp [go_sem]
         have q3 : w4.frozen? ⟨w.heap.size + 1,0,none⟩ = false:=by rw [hf4 _ _ (by simp <;> omega)];simp [go_sem]
         go_wp2
         refine leaves_cons (f:=201) (args:=#[.pointer (some ⟨w.heap.size,0,none⟩),.pointer (some ⟨w.heap.size + 1,0,none⟩)]) (by simp) (by simp [go_sem]) ?_
         refine (fface_idle _ _ _).mono ?_
         rintro e u' w'' ⟨rfl,rfl,rfl⟩
         simp [Leaves,settle,results,Tryz.results166,go_sem,q0,q1,q2,q3]
         exact ⟨by rw [HX.out];rfl,(by repeat' (first | (with_reducible first | exact Below.refl _ _ | refine Below.drew ?_ | refine belowDrewN ?_ _ | refine belowIter ?_ ?_ _ _ | refine Below.setCell ?_ ?_ _ | refine Below.alloc ?_ ?_ _ | refine bT hb4 ?_ ?_ | refine bT hb2 ?_ ?_ | refine bT hb1 ?_ ?_ | refine bT hbr ?_ ?_ | refine bT hb ?_ ?_) | (simp;done) | (simp;omega) | omega))⟩
       · have HA:=Lh hda
         have HP:=Lh hdp
         clear hda hdp
         have hne:=catE_no hemp
         go_wp2_with (first | (go_at_call 42;first | (refine (pre_as _ [45] _ H45.out _).mono ?_;rintro e w' ⟨rfl,rfl⟩) | (refine (pre_as _ [43] _ H43.out _).mono ?_;rintro e w' ⟨rfl,rfl⟩)) | (go_at_call 202;refine (cutdot_in su a p HCa.out HCp.out hsl.out m _ hm2).mono ?_;rintro e w2 ⟨f,rfl,n1,rfl⟩))
         refine (digits_in a (by omega) true HA.out _).mono ?_
         rintro e w3 ⟨rfl,hb3⟩
         obtain ⟨hc3,hf3⟩:=bcell hb3
         have hz3 : w.heap.size + 2 ≤ w3.heap.size:=by have:=hb3.size;simp at this;omega
         go_wp2_with fail
         refine (digits_in p (by omega) true HP.out _).mono ?_
         rintro e w4 ⟨rfl,hb4⟩
         replace hb4:=hb3.trans (hb4.mono (by simp;omega))
         obtain ⟨hc4,hf4⟩:=bcell hb4
         have hz4 : w.heap.size + 2 ≤ w4.heap.size:=by have:=hb4.size;simp at this;omega
         clear hb3 hc3 hf3 hz3
         go_wp2
         have hbw : Below w.heap.size w w4:=(by repeat' (first | (with_reducible first | exact Below.refl _ _ | refine Below.drew ?_ | refine belowDrewN ?_ _ | refine belowIter ?_ ?_ _ _ | refine Below.setCell ?_ ?_ _ | refine Below.alloc ?_ ?_ _ | refine bT hb4 ?_ ?_ | refine bT hb2 ?_ ?_ | refine bT hb1 ?_ ?_ | refine bT hbr ?_ ?_ | refine bT hb ?_ ?_) | (simp;done) | (simp;omega) | omega))
         have n0 : (w4.iter ⟨a.toArray⟩ 0).cell? ⟨w.heap.size,0,none⟩ = some (.int .i64 0):=by
           rw [World.iter,World.cell?_alloc_past _ _ _ (by omega),hc4 _ _ (by simp <;> omega)];simp [go_sem]
         have n1' : (w4.iter ⟨a.toArray⟩ 0).cell? ⟨w.heap.size + 1,0,none⟩ = some (.int .i64 0):=by
           rw [World.iter,World.cell?_alloc_past _ _ _ (by omega),hc4 _ _ (by simp <;> omega)];simp [go_sem]
         have n2 : (w4.iter ⟨a.toArray⟩ 0).frozen? ⟨w.heap.size,0,none⟩ = false:=by
           rw [World.iter,World.frozen?_alloc_past _ _ _ (by omega),hf4 _ _ (by simp <;> omega)];simp [go_sem]
         have n3 : (w4.iter ⟨a.toArray⟩ 0).frozen? ⟨w.heap.size + 1,0,none⟩ = false:=by
           rw [World.iter,World.frozen?_alloc_past _ _ _ (by omega),hf4 _ _ (by simp <;> omega)];simp [go_sem]
         go_loopw [9] (fun _ wr => ∃ (k v : Nat),k ≤ a.length ∧ v ≤ 1073741824 ∧ wr.cell? ⟨w.heap.size,0,none⟩ = some (.int .i64 v) ∧ wr.cell? ⟨w.heap.size + 1,0,none⟩ = some (.int .i64 0) ∧ wr.frozen? ⟨w.heap.size,0,none⟩ = false ∧ wr.frozen? ⟨w.heap.size + 1,0,none⟩ = false ∧ wr.heap[w4.heap.size]? = some (.stringIter ⟨a.toArray⟩ k) ∧ Below w.heap.size w wr ∧ Hid (v = val (a.take k))) (fun _ wr => a.length - wr.iterPos w4.heap.size)
         case atStart => exact ⟨0,0,by omega,by omega,n0,n1',n2,n3,World.iter_heap _ _ _,belowIter hbw (by omega) _ _,by show _ = _;simp [val]⟩
         case round =>
           obtain ⟨k,v,hk,hv,r0,r1,r2,r3,hit,hbr,HV⟩:=hrel
           clear n0 n1' n2 n3
           by_cases hlt : k < a.length
           · have hg:=dig_bounds (List.all_eq_true.1 (show a.all isDig = true from HA.out) _ (List.getElem_mem hlt))
             obtain ⟨W1,hW1⟩ : ∃ W1,iterSet wr w4.heap.size ⟨a.toArray⟩ (k + 1) = W1:=⟨_,rfl⟩
             have hnx : ∀ ty,(Instr.next (.pointer (some ⟨w4.heap.size,0,none⟩)) true ty).run Tryz.prog wr = .ok (.tuple #[.bool true,.int .i64 k,.int .i32 a[k].toNat]) W1:=fun ty => by
               rw [← hW1];exact next_at wr _ k ⟨a.toArray⟩ ty hit (by show k < a.toArray.size;simpa using hlt) (by show a[k].toNat < 128;omega)
             have q0 : W1.cell? ⟨w.heap.size,0,none⟩ = some (.int .i64 v):=by rw [← hW1,iterSet_cell _ _ _ _ _ _ (by omega)];exact r0
             have q1 : W1.cell? ⟨w.heap.size + 1,0,none⟩ = some (.int .i64 0):=by rw [← hW1,iterSet_cell _ _ _ _ _ _ (by omega)];exact r1
             have q2 : W1.frozen? ⟨w.heap.size,0,none⟩ = false:=by rw [← hW1,iterSet_frozen _ _ _ _ _ _ (by omega)];exact r2
             have q3 : W1.frozen? ⟨w.heap.size + 1,0,none⟩ = false:=by rw [← hW1,iterSet_frozen _ _ _ _ _ _ (by omega)];exact r3
             have qb : Below w.heap.size w W1:=by rw [← hW1];exact iterSet_below hbr (by omega) _ _
             have qi : W1.heap[w4.heap.size]? = some (.stringIter ⟨a.toArray⟩ (k + 1)):=by rw [← hW1];exact iterSet_same _ _ _ _ (lt_of_block hit)
             have HV2:=Lh (show 10 * v + (a[k].toNat - 48) = val (a.take (k + 1)) by rw [take_snoc' a k hlt,val_snoc,HV.out])
             have HIP:=Lh (And.intro hit qi)
             clear hW1 r0 r1 r2 r3 hbr HV hit qi
             by_cases hbig : 1073741824 < 10 * v + (a[k].toNat - 48)
             · have HX := Lib.hid (show R = .bad 2 by
                 rw [← HR.out,if_neg (by simpa using hemp),HA.out,HP.out]
                 have : val (a.take (k + 1)) ≤ val (a ++ part4 p):=by
                   conv => rhs;rw [← List.take_append_drop (k + 1) a,List.append_assoc]
                   exact val_le_append _ _
                 have h2:=HV2.out
                 simp only [Bool.not_true,Bool.or_self,Bool.false_eq_true,if_false]
                 rw [if_pos (by split <;> split <;> omega)])
               go_wp2
               refine leaves_cons (f:=201) (args:=#[.pointer (some ⟨w.heap.size,0,none⟩),.pointer (some ⟨w.heap.size + 1,0,none⟩)]) (by simp) (by simp [go_sem]) ?_
               refine (fface_idle _ _ _).mono ?_
               rintro e u' w'' ⟨rfl,rfl,rfl⟩
               simp [Leaves,settle,results,Tryz.results166,go_sem,q0,q1,q2,q3]
               exact ⟨by rw [HX.out];rfl,(by repeat' (first | (with_reducible first | exact Below.refl _ _ | refine Below.drew ?_ | refine belowDrewN ?_ _ | refine belowIter ?_ ?_ _ _ | refine Below.setCell ?_ ?_ _ | refine Below.alloc ?_ ?_ _ | refine bT hb4 ?_ ?_ | refine bT qb ?_ ?_ | refine bT hb2 ?_ ?_ | refine bT hb1 ?_ ?_ | refine bT hbr ?_ ?_ | refine bT hb ?_ ?_) | (simp;done) | (simp;omega) | omega))⟩
             · go_wp2
               go_roundw
               case rel =>
                 refine ⟨k + 1,10 * v + (a[k].toNat - 48),by omega,by omega,?_,?_,?_,?_,?_,?_,HV2⟩
                 · rw [World.cell?_setCell_same _ _ _ q0];congr 2;omega
                 · rw [World.cell?_setCell_other _ _ _ _ (by simp)];exact q1
                 · rw [World.frozen?_setCell];exact q2
                 · rw [World.frozen?_setCell];exact q3
                 · rw [Below.heap_setCell _ _ _ _ (by show w4.heap.size ≠ w.heap.size;omega)];exact HIP.out.2
                 · exact qb.setCell (by simp) _
               case measure =>
                 rw [iterPos_of (by rw [Below.heap_setCell _ _ _ _ (by show w4.heap.size ≠ w.heap.size;omega)];exact HIP.out.2),iterPos_of HIP.out.1];omega
           · have hk2 : k = a.length:=by omega
             subst hk2
             have hnx : ∀ ty,(Instr.next (.pointer (some ⟨w4.heap.size,0,none⟩)) true ty).run Tryz.prog wr = .ok (.tuple #[.bool false]) wr:=fun ty => next_end wr _ a.length ⟨a.toArray⟩ ty hit (by show ¬ a.length < a.toArray.size;simp)
             have HV1:=Lh (show v = val a by have:=HV.out;rwa [List.take_length] at this)
             clear HV
             go_wp2
             obtain ⟨pp,hpp⟩ : ∃ pp,(ByteArray.mk p.toArray) ++ (ByteArray.mk #[48,48,48,48,48]) = pp:=⟨_,rfl⟩
             rw [hpp]
             have hpl2 : pp.data.toList = p ++ [48,48,48,48,48]:=by rw [← hpp];simp
             have hps : p.length + 5 = pp.size:=by show _ = pp.data.toList.length;rw [hpl2];simp
             obtain ⟨q4,hq4⟩ : ∃ q4,pp.extract 0 4 = q4:=⟨_,rfl⟩
             have hq4l : q4.data.toList = part4 p:=by rw [← hq4,Lib.extract_data,List.drop_zero,hpl2];exact part4_eq p
             have hq4s : q4.size = 4:=by show q4.data.toList.length = 4;rw [hq4l];simp [part4]
             rw [hq4]
             clear hpp hq4
             obtain ⟨W2,hW2⟩ : ∃ W2,wr.iter q4 0 = W2:=⟨_,rfl⟩
             have hlt4:=lt_of_block hit
             have z0 : W2.cell? ⟨w.heap.size,0,none⟩ = some (.int .i64 v):=by rw [← hW2,World.iter,World.cell?_alloc_past _ _ _ (by omega)];exact r0
             have z1 : W2.cell? ⟨w.heap.size + 1,0,none⟩ = some (.int .i64 0):=by rw [← hW2,World.iter,World.cell?_alloc_past _ _ _ (by omega)];exact r1
             have z2 : W2.frozen? ⟨w.heap.size,0,none⟩ = false:=by rw [← hW2,World.iter,World.frozen?_alloc_past _ _ _ (by omega)];exact r2
             have z3 : W2.frozen? ⟨w.heap.size + 1,0,none⟩ = false:=by rw [← hW2,World.iter,World.frozen?_alloc_past _ _ _ (by omega)];exact r3
             have zb : Below w.heap.size w W2:=by rw [← hW2];exact belowIter hbr (by omega) _ _
             have zi : W2.heap[wr.heap.size]? = some (.stringIter q4 0):=by rw [← hW2];exact World.iter_heap _ _ _
             have hit2 : w.heap.size + 2 ≤ wr.heap.size:=by omega
             obtain ⟨I2,hI2⟩ : ∃ I2,wr.heap.size = I2:=⟨_,rfl⟩
             rw [hI2] at zi hit2
             rw [hW2,hI2]
             have HQL:=Lh hq4l
             have HQS:=Lh hq4s
             have HPL:=Lh hpl2
             clear hW2 hI2 hit hbr r0 r1 r2 r3 hlt4 hnx hq4l hq4s hpl2
             go_loopw [11] (fun _ wq => ∃ (k u : Nat),k ≤ 4 ∧ u < 10737418250000 ∧ Hid (u < 1073741825 * 10 ^ k) ∧ wq.cell? ⟨w.heap.size,0,none⟩ = some (.int .i64 u) ∧ wq.cell? ⟨w.heap.size + 1,0,none⟩ = some (.int .i64 0) ∧ wq.frozen? ⟨w.heap.size,0,none⟩ = false ∧ wq.frozen? ⟨w.heap.size + 1,0,none⟩ = false ∧ wq.heap[I2]? = some (.stringIter q4 k) ∧ Below w.heap.size w wq ∧ Hid (u = val (a ++ (part4 p).take k))) (fun _ wq => 4 - wq.iterPos I2)
             case atStart => exact ⟨0,v,by omega,by omega,by show _ < _;omega,z0,z1,z2,z3,zi,zb,by show _ = _;rw [HV1.out];simp⟩
             case round =>
               obtain ⟨k,u,hk,hu,HU,r0,r1,r2,r3,hit,hbr,HV⟩:=hrel
               clear z0 z1 z2 z3 zi zb
               by_cases hlt : k < 4
               · have hpl4 : (part4 p).length = 4:=by simp [part4]
                 have hkk : k < (part4 p).length:=by omega
                 have hp4 : (part4 p).all isDig = true:=by
                   unfold part4;rw [List.all_eq_true];intro c hc
                   have:=List.mem_of_mem_take hc
                   rw [List.mem_append] at this
                   rcases this with h | h
                   · exact List.all_eq_true.1 (show p.all isDig = true from HP.out) c h
                   · simp at h;subst h;decide
                 have hg:=dig_bounds (List.all_eq_true.1 hp4 _ (List.getElem_mem hkk))
                 obtain ⟨c,hcc⟩ : ∃ c,(part4 p)[k] = c:=⟨_,rfl⟩
                 rw [hcc] at hg
                 obtain ⟨W1,hW1⟩ : ∃ W1,iterSet wr I2 q4 (k + 1) = W1:=⟨_,rfl⟩
                 have hcq : ∀ h,q4[k]'h = c:=fun h => by
                   rw [← hcc]
                   have : q4.data.toList[k]'(by simpa using h) = (part4 p)[k]:=by simp only [HQL.out]
                   exact this
                 have hks : k < q4.size:=by rw [HQS.out];omega
                 have hnx : ∀ ty,(Instr.next (.pointer (some ⟨I2,0,none⟩)) true ty).run Tryz.prog wr = .ok (.tuple #[.bool true,.int .i64 k,.int .i32 c.toNat]) W1:=fun ty => by
                   have:=next_at wr I2 k q4 ty hit hks (by rw [hcq];omega)
                   rw [hcq,hW1] at this;exact this
                 have q0 : W1.cell? ⟨w.heap.size,0,none⟩ = some (.int .i64 u):=by rw [← hW1,iterSet_cell _ _ _ _ _ _ (by omega)];exact r0
                 have q1 : W1.cell? ⟨w.heap.size + 1,0,none⟩ = some (.int .i64 0):=by rw [← hW1,iterSet_cell _ _ _ _ _ _ (by omega)];exact r1
                 have q2 : W1.frozen? ⟨w.heap.size,0,none⟩ = false:=by rw [← hW1,iterSet_frozen _ _ _ _ _ _ (by omega)];exact r2
                 have q3 : W1.frozen? ⟨w.heap.size + 1,0,none⟩ = false:=by rw [← hW1,iterSet_frozen _ _ _ _ _ _ (by omega)];exact r3
                 have qb : Below w.heap.size w W1:=by rw [← hW1];exact iterSet_below hbr (by omega) _ _
                 have qi : W1.heap[I2]? = some (.stringIter q4 (k + 1)):=by rw [← hW1];exact iterSet_same _ _ _ _ (lt_of_block hit)
                 have hvs : 10 * u + (c.toNat - 48) = val (a ++ (part4 p).take (k + 1)):=by rw [take_snoc' _ k hkk,hcc,← List.append_assoc,val_snoc,HV.out]
                 have HV2:=Lh hvs
                 have HIP:=Lh (And.intro hit qi)
                 have hub : 10 * u + (c.toNat - 48) < 1073741825 * 10 ^ (k + 1):=by have:=HU.out;rw [Nat.pow_succ];omega
                 have hub2 : 10 * u + (c.toNat - 48) < 10737418250000:=Nat.lt_of_lt_of_le hub (by
                   have : 10 ^ (k + 1) ≤ 10 ^ 4:=Nat.pow_le_pow_right (by decide) (by omega)
                   omega)
                 have HUB:=Lh hub
                 clear hW1 r0 r1 r2 r3 hbr HV hit qi hvs hub hcq hcc hp4 hkk hpl4 hks HU
                 go_wp2
                 go_roundw
                 case rel =>
                   refine ⟨k + 1,10 * u + (c.toNat - 48),by omega,hub2,HUB,?_,?_,?_,?_,?_,?_,HV2⟩
                   · rw [World.cell?_setCell_same _ _ _ q0];congr 2;omega
                   · rw [World.cell?_setCell_other _ _ _ _ (by simp)];exact q1
                   · rw [World.frozen?_setCell];exact q2
                   · rw [World.frozen?_setCell];exact q3
                   · rw [Below.heap_setCell _ _ _ _ (by show I2 ≠ w.heap.size;omega)];exact HIP.out.2
                   · exact qb.setCell (by simp) _
                 case measure =>
                   rw [iterPos_of (by rw [Below.heap_setCell _ _ _ _ (by show I2 ≠ w.heap.size;omega)];exact HIP.out.2),iterPos_of HIP.out.1];omega
               · have hk2 : k = 4:=by omega
                 subst hk2
                 have hnx : ∀ ty,(Instr.next (.pointer (some ⟨I2,0,none⟩)) true ty).run Tryz.prog wr = .ok (.tuple #[.bool false]) wr:=fun ty => next_end wr _ 4 q4 ty hit (by rw [HQS.out];omega)
                 have HV1:=Lh (show u = val (a ++ part4 p) by have:=HV.out;rwa [List.take_of_length_le (by simp [part4])] at this)
                 have hb0 : w.heap.size < wr.heap.size:=by have:=lt_of_block hit;omega
                 have hb1 : w.heap.size + 1 < wr.heap.size:=by have:=lt_of_block hit;omega
                 clear HV HU
                 go_wp2_with fail
                 refine (trimR_as _ (rest p) (by rw [Lib.extract_to_end,HPL.out];rfl) (by simp;omega) _).mono ?_
                 rintro e w5 ⟨rfl,hb5⟩
                 obtain ⟨hc5,hf5⟩:=bcell hb5
                 have hbw5 : Below w.heap.size w w5:=hbr.trans (hb5.mono (by omega))
                 have q0 : w5.cell? ⟨w.heap.size,0,none⟩ = some (.int .i64 u):=(hc5 _ _ hb0).trans r0
                 have q1 : w5.cell? ⟨w.heap.size + 1,0,none⟩ = some (.int .i64 0):=(hc5 _ _ hb1).trans r1
                 have q2 : w5.frozen? ⟨w.heap.size,0,none⟩ = false:=(hf5 _ _ hb0).trans r2
                 have q3 : w5.frozen? ⟨w.heap.size + 1,0,none⟩ = false:=(hf5 _ _ hb1).trans r3
                 have hs0 : w.heap.size < w5.heap.size:=by have:=hb5.size;omega
                 have hs1 : w.heap.size + 1 < w5.heap.size:=by have:=hb5.size;omega
                 clear r0 r1 r2 r3 hc5 hf5 hb5 hit hbr hnx
                 cases hup : (!(Op.bytesLess (rest p) [53] || rest p == [53]))
                 · have HRV:=Lh (read_val HR.out hemp HA.out HP.out true false HM.out ((cmp_gt p HP.out).symm.trans hup) u HV1.out)
                   by_cases hbig : 1073741824 < u + (0 : Nat)
                   · have HX:=Lh (show R = .bad 2 by rw [HRV.out,if_pos (by simpa using hbig)])
                     go_wp2_with fail
                     refine (bounded_bad w5.heap.size (-(u : Int)) _ (by simp [go_sem]) (by omega) (by omega) (by omega)).mono ?_
                     rintro e w6 ⟨rfl,rfl⟩
                     go_wp2
                     refine leaves_cons (f:=201) (args:=#[.pointer (some ⟨w.heap.size,0,none⟩),.pointer (some ⟨w.heap.size + 1,0,none⟩)]) (by simp) (by simp [go_sem]) ?_
                     refine (fface_catch _ _ _ _ _ (-(u : Int)) 0 (by simp [go_sem,q0,q1,q2,q3,hs0,hs1]) (by simp [go_sem,q0,q1,q2,q3,hs0,hs1]) (by simp [go_sem,q0,q1,q2,q3,hs0,hs1]) (by simp [go_sem,q0,q1,q2,q3,hs0,hs1]) (by simp)).mono ?_
                     rintro e u' w'' ⟨rfl,rfl,rfl⟩
                     simp [Leaves,settle,results,Tryz.results166,go_sem,q0,q1,q2,q3,hs0,hs1]
                     exact ⟨by rw [HX.out];rfl,(by repeat' (first | (with_reducible first | exact Below.refl _ _ | refine Below.drew ?_ | refine belowDrewN ?_ _ | refine belowIter ?_ ?_ _ _ | refine Below.setCell ?_ ?_ _ | refine Below.alloc ?_ ?_ _ | refine bT hb4 ?_ ?_ | refine bT hbw5 ?_ ?_ | refine bT hb2 ?_ ?_ | refine bT hb1 ?_ ?_ | refine bT hbr ?_ ?_ | refine bT hb ?_ ?_) | (simp;done) | (simp;omega) | omega))⟩
                   · have HX:=Lh (show R = .good (-(u : Int)) by rw [HRV.out,if_neg (by simpa using hbig)];simp)
                     go_wp2_with fail
                     refine (bounded_good w5.heap.size (-(u : Int)) _ (by simp [go_sem]) (by omega) (by omega)).mono ?_
                     rintro e w6 ⟨rfl,rfl⟩
                     go_wp2
                     refine leaves_cons (f:=201) (args:=#[.pointer (some ⟨w.heap.size,0,none⟩),.pointer (some ⟨w.heap.size + 1,0,none⟩)]) (by simp) (by simp [go_sem]) ?_
                     refine (fface_idle _ _ _).mono ?_
                     rintro e u' w'' ⟨rfl,rfl,rfl⟩
                     simp [Leaves,settle,results,Tryz.results166,go_sem,q0,q1,q2,q3,hs0,hs1]
                     exact ⟨by rw [HX.out];rfl,(by repeat' (first | (with_reducible first | exact Below.refl _ _ | refine Below.drew ?_ | refine belowDrewN ?_ _ | refine belowIter ?_ ?_ _ _ | refine Below.setCell ?_ ?_ _ | refine Below.alloc ?_ ?_ _ | refine bT hb4 ?_ ?_ | refine bT hbw5 ?_ ?_ | refine bT hb2 ?_ ?_ | refine bT hb1 ?_ ?_ | refine bT hbr ?_ ?_ | refine bT hb ?_ ?_) | (simp;done) | (simp;omega) | omega))⟩
                 · have HRV:=Lh (read_val HR.out hemp HA.out HP.out true true HM.out ((cmp_gt p HP.out).symm.trans hup) u HV1.out)
                   by_cases hbig : 1073741824 < u + (1 : Nat)
                   · have HX:=Lh (show R = .bad 2 by rw [HRV.out,if_pos (by simpa using hbig)])
                     go_wp2_with fail
                     refine (bounded_bad w5.heap.size (-((u : Int) + 1)) _ (by simp [go_sem]) (by omega) (by omega) (by omega)).mono ?_
                     rintro e w6 ⟨rfl,rfl⟩
                     have k0 : ((w5.setCell ⟨w.heap.size,0,none⟩ (.int .i64 ((u : Int) + 1))).setCell ⟨w.heap.size,0,none⟩ (.int .i64 (-((u : Int) + 1)))).cell? ⟨w.heap.size,0,none⟩ = some (.int .i64 (-((u : Int) + 1))):=by simp [go_sem,q0]
                     go_wp2
                     refine leaves_cons (f:=201) (args:=#[.pointer (some ⟨w.heap.size,0,none⟩),.pointer (some ⟨w.heap.size + 1,0,none⟩)]) (by simp) (by simp [go_sem]) ?_
                     refine (fface_catch _ _ _ _ _ (-((u : Int) + 1)) 0 (by simp [go_sem,q0,q1,q2,q3,hs0,hs1]) (by simp [go_sem,q0,q1,q2,q3,hs0,hs1]) (by simp [go_sem,q0,q1,q2,q3,hs0,hs1]) (by simp [go_sem,q0,q1,q2,q3,hs0,hs1]) (by simp)).mono ?_
                     rintro e u' w'' ⟨rfl,rfl,rfl⟩
                     simp [Leaves,settle,results,Tryz.results166,go_sem,q0,q1,q2,q3,hs0,hs1,k0]
                     exact ⟨by rw [HX.out];rfl,(by repeat' (first | (with_reducible first | exact Below.refl _ _ | refine Below.drew ?_ | refine belowDrewN ?_ _ | refine belowIter ?_ ?_ _ _ | refine Below.setCell ?_ ?_ _ | refine Below.alloc ?_ ?_ _ | refine bT hb4 ?_ ?_ | refine bT hbw5 ?_ ?_ | refine bT hb2 ?_ ?_ | refine bT hb1 ?_ ?_ | refine bT hbr ?_ ?_ | refine bT hb ?_ ?_) | (simp;done) | (simp;omega) | omega))⟩
                   · have HX:=Lh (show R = .good (-((u : Int) + 1)) by rw [HRV.out,if_neg (by simpa using hbig)];simp)
                     go_wp2_with fail
                     refine (bounded_good w5.heap.size (-((u : Int) + 1)) _ (by simp [go_sem]) (by omega) (by omega)).mono ?_
                     rintro e w6 ⟨rfl,rfl⟩
                     have k0 : ((w5.setCell ⟨w.heap.size,0,none⟩ (.int .i64 ((u : Int) + 1))).setCell ⟨w.heap.size,0,none⟩ (.int .i64 (-((u : Int) + 1)))).cell? ⟨w.heap.size,0,none⟩ = some (.int .i64 (-((u : Int) + 1))):=by simp [go_sem,q0]
                     go_wp2
                     refine leaves_cons (f:=201) (args:=#[.pointer (some ⟨w.heap.size,0,none⟩),.pointer (some ⟨w.heap.size + 1,0,none⟩)]) (by simp) (by simp [go_sem]) ?_
                     refine (fface_idle _ _ _).mono ?_
                     rintro e u' w'' ⟨rfl,rfl,rfl⟩
                     simp [Leaves,settle,results,Tryz.results166,go_sem,q0,q1,q2,q3,hs0,hs1,k0]
                     exact ⟨by rw [HX.out];rfl,(by repeat' (first | (with_reducible first | exact Below.refl _ _ | refine Below.drew ?_ | refine belowDrewN ?_ _ | refine belowIter ?_ ?_ _ _ | refine Below.setCell ?_ ?_ _ | refine Below.alloc ?_ ?_ _ | refine bT hb4 ?_ ?_ | refine bT hbw5 ?_ ?_ | refine bT hb2 ?_ ?_ | refine bT hb1 ?_ ?_ | refine bT hbr ?_ ?_ | refine bT hb ?_ ?_) | (simp;done) | (simp;omega) | omega))⟩
end Go.Proofs.YtinafodpgjbedaaGreatDoor
