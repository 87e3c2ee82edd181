/- Parts of the proof: Next. -/
import Derived.Test.YtinafodpgjbedaaGreatDoorPdFix
set_option linter.all false
set_option maxRecDepth 100000
set_option maxHeartbeats 8000000
namespace Go.Proofs.YtinafodpgjbedaaGreatDoor
open Go.RowKit Fo
theorem read_any (s : ByteArray) (hs : s.size ≤ 140737488355327) (m : Int) (w : World) (hm : MaxW w m) :
   Calls Tryz.prog 166 #[.string s] w fun e w' => e = .returned (intR (fixV s.data.toList)) ∧ Below w.heap.size w w':=by
 by_cases h : s.size ≤ 40
 · exact read_in s h m w hm
 · exact read_long s (by omega) hs w
theorem clsOf_int {l : L} (h : isInt l = true) : clsOf l = 1:=by simp [clsOf,h]
theorem clsOf_frac {l : L} (h : isInt l = false) (h2 : l.contains 46 = true) : clsOf l = 2:=by simp [clsOf,h];simpa using h2
theorem clsOf_word {l : L} (h : isInt l = false) (h2 : l.contains 46 = false) : clsOf l = 0:=by simp [clsOf,h];simpa using h2
theorem class_as (s : ByteArray) (k : Int) (h : clsOf s.data.toList = k) (hs : s.size ≤ 140737488355327) (w : World) :
   Calls Tryz.prog 164 #[.string s] w fun e w' => e = .returned (.int .i64 k) ∧ Below w.heap.size w w':=h ▸ class_in s hs w
theorem whole_bad (s : ByteArray) (k : Int) (h1 : isInt s.data.toList = true) (h : wholeV s.data.toList = .bad k) (hs : s.size ≤ 140737488355327) (w : World) :
   Calls Tryz.prog 165 #[.string s] w fun e w' => e = .returned (.tuple #[.int .i64 0,.int .i64 k]) ∧ Below w.heap.size w w':=by
 have:=whole_in s hs h1 w;rw [h] at this;exact this
theorem whole_good (s : ByteArray) (k : Int) (h1 : isInt s.data.toList = true) (h : wholeV s.data.toList = .good k) (hs : s.size ≤ 140737488355327) (w : World) :
   Calls Tryz.prog 165 #[.string s] w fun e w' => e = .returned (.tuple #[.int .i64 k,.int .i64 0]) ∧ Below w.heap.size w w':=by
 have:=whole_in s hs h1 w;rw [h] at this;exact this
theorem read_bad (s : ByteArray) (k : Int) (h : fixV s.data.toList = .bad k) (hs : s.size ≤ 140737488355327) (m : Int) (w : World) (hm : MaxW w m) :
   Calls Tryz.prog 166 #[.string s] w fun e w' => e = .returned (.tuple #[.int .i64 0,.int .i64 k]) ∧ Below w.heap.size w w':=by
 have:=read_any s hs m w hm;rw [h] at this;exact this
theorem read_good (s : ByteArray) (k : Int) (h : fixV s.data.toList = .good k) (hs : s.size ≤ 140737488355327) (m : Int) (w : World) (hm : MaxW w m) :
   Calls Tryz.prog 166 #[.string s] w fun e w' => e = .returned (.tuple #[.int .i64 k,.int .i64 0]) ∧ Below w.heap.size w w':=by
 have:=read_any s hs m w hm;rw [h] at this;exact this
theorem wholeV_cases {l : L} {e : Int} (h : wholeV l = .bad e) : e = 2:=by
 unfold wholeV at h;split at h
 · cases h;rfl
 · cases h
theorem fixV_cases {l : L} {e : Int} (h : fixV l = .bad e) : e = 2 ∨ e = 3:=by
 unfold fixV at h
 split at h
 · cases h;simp
 · split at h
   · cases h;simp
   · split at h
     · cases h;simp
     · dsimp only at h
       by_cases hb : 1073741824 < (if (if minus l then overHalf ((postDot (unsigned l)).drop 4) else atHalf ((postDot (unsigned l)).drop 4)) then val (preDot (unsigned l) ++ part4 (postDot (unsigned l))) + 1 else val (preDot (unsigned l) ++ part4 (postDot (unsigned l))))
       · rw [if_pos hb] at h;cases h;simp
       · rw [if_neg hb] at h;cases h
theorem word_in (s : ByteArray) (a : Nat) (ha : a < s.size) (hs : s.size ≤ 140737488355327) (m : Int) (w : World) (hm : MaxW w m) :
   Calls Tryz.prog 127 #[.agg #[.string s,.int .i64 a]] w fun e w' => e = .returned (tokR a (wordT ((s.data.toList.drop a).take (regN (s.data.toList.drop a))))) ∧ Below w.heap.size w w':=by
 have hmx : s.size ≤ maxLen:=by unfold maxLen;omega
 obtain ⟨N,hN⟩ : ∃ N,regN (s.data.toList.drop a) = N:=⟨_,rfl⟩
 have hNle : a + N ≤ s.size:=by have:=regN_le (s.data.toList.drop a);rw [hN] at this;simp at this;omega
 have hrun:=run_in s a a (by omega) hmx
 rw [hN] at hrun
 rw [hN]
 obtain ⟨r,hr⟩ : ∃ r,s.extract a (a + N) = r:=⟨_,rfl⟩
 have hrl : (s.data.toList.drop a).take N = r.data.toList:=by rw [← hr,Lib.extract_data,show a + N - a = N by omega]
 have hrs : r.size = N:=by rw [← hr];simp;omega
 rw [hrl]
 have hlen : r.data.toList.length = N:=hrs
 have HR:=Lh hrun
 have HS:=Lh hrs
 have HL:=Lh hlen
 have hrs2 : r.size ≤ 140737488355327:=by omega
 clear hrun hN hrl hrs hlen
 cases hi : isInt r.data.toList
 · cases hd : r.data.toList.contains 46
   · have HC:=Lh (clsOf_word hi hd)
     have HX:=Lh (show wordT r.data.toList = told 5 r.data.toList.length r.data.toList 127 by simp only [wordT,hi,hd,Bool.false_eq_true,if_false])
     clear hi hd
     go_enter Tryz.func127,Tryz.ntmps127
     go_wp2_with fail
     refine (HR.out _).mono ?_
     rintro e w1 ⟨rfl,hb⟩
     obtain ⟨hc1,hf1⟩:=bcell hb
     have hB1 : w.heap.size + 2 ≤ w1.heap.size:=by have:=hb.size;simp at this;omega
     have hm1 : MaxW w1 m:=(hm.below bel).below hb
     go_wp2_with fail
     refine (class_as r _ HC.out hrs2 _).mono ?_
     rintro e w2 ⟨rfl,hb2⟩
     replace hb2:=hb2.mono hB1
     have hB2 : w.heap.size + 2 ≤ w2.heap.size:=Nat.le_trans hB1 hb2.size
     have hm2 : MaxW w2 m:=hm1.belowB hb2 (by have:=hm.lt;omega)
     obtain ⟨hc2,hf2⟩:=bcellB hb2
     go_wp2_with fail
     by_cases h127 : r.size ≤ 127
     · refine (told_in s a 5 _ r 127 (by unfold maxLen;omega) _ h127).mono ?_
       rintro e wz ⟨rfl,hb4⟩
       replace hb4:=hb2.trans (hb4.mono hB2)
       obtain ⟨hcz,hfz⟩:=bcellB hb4
       go_wp2
       refine bodyPost_ret (v:=.tuple #[.agg #[.int .i64 5,.int .i64 a,.int .i64 (a + N),.int .i64 0,.string r],.int .i64 0]) (by simp [results,Tryz.results127,go_sem,hcz,hfz,hc1,hf1]) rfl ⟨?_,bel⟩
       rw [HX.out];unfold told;rw [if_neg (show ¬ 127 < r.data.toList.length by rw [HL.out,← HS.out];omega)];simp [tokR,HL.out]
     · refine (told_long s a 5 _ r 127 (by unfold maxLen;omega) _ (by omega)).mono ?_
       rintro e wz ⟨rfl,hb4⟩
       replace hb4:=hb2.trans (hb4.mono hB2)
       obtain ⟨hcz,hfz⟩:=bcellB hb4
       go_wp2
       refine bodyPost_ret (v:=.tuple #[.agg #[.int .i64 0,.int .i64 0,.int .i64 0,.int .i64 0,.string ⟨#[]⟩],.int .i64 5]) (by simp [results,Tryz.results127,go_sem,hcz,hfz,hc1,hf1]) rfl ⟨?_,bel⟩
       rw [HX.out];unfold told;rw [if_pos (show 127 < r.data.toList.length by rw [HL.out,← HS.out];omega)];rfl
   · have HC:=Lh (clsOf_frac hi hd)
     cases hw : fixV r.data.toList with
     | bad e =>
       have HW:=Lh hw
       rcases fixV_cases hw with rfl | rfl
       · have HX:=Lh (show wordT r.data.toList = .bad 2 by simp only [wordT,hi,hd,hw,Bool.false_eq_true,if_false,if_true])
         clear hi hd hw
         go_enter Tryz.func127,Tryz.ntmps127
         go_wp2_with fail
         refine (HR.out _).mono ?_
         rintro e w1 ⟨rfl,hb⟩
         obtain ⟨hc1,hf1⟩:=bcell hb
         have hB1 : w.heap.size + 2 ≤ w1.heap.size:=by have:=hb.size;simp at this;omega
         have hm1 : MaxW w1 m:=(hm.below bel).below hb
         go_wp2_with fail
         refine (class_as r _ HC.out hrs2 _).mono ?_
         rintro e w2 ⟨rfl,hb2⟩
         replace hb2:=hb2.mono hB1
         have hB2 : w.heap.size + 2 ≤ w2.heap.size:=Nat.le_trans hB1 hb2.size
         have hm2 : MaxW w2 m:=hm1.belowB hb2 (by have:=hm.lt;omega)
         obtain ⟨hc2,hf2⟩:=bcellB hb2
         go_wp2_with fail
         refine (read_bad r 2 HW.out hrs2 m _ hm2).mono ?_
         rintro e w3 ⟨rfl,hb3⟩
         replace hb3:=hb2.trans (hb3.mono hB2)
         have hB3 : w.heap.size + 2 ≤ w3.heap.size:=Nat.le_trans hB1 hb3.size
         obtain ⟨hc3,hf3⟩:=bcellB hb3
         go_wp2_with fail
         refine (refused_in _ _).mono ?_
         rintro e wz ⟨rfl,hb4⟩
         replace hb4:=hb3.trans (hb4.mono hB3)
         obtain ⟨hcz,hfz⟩:=bcellB hb4
         go_wp2
         refine bodyPost_ret (v:=.tuple #[.agg #[.int .i64 0,.int .i64 0,.int .i64 0,.int .i64 0,.string ⟨#[]⟩],.int .i64 2]) (by simp [results,Tryz.results127,go_sem,hcz,hfz,hc1,hf1]) rfl ⟨by rw [HX.out];rfl,bel⟩
       · have HX:=Lh (show wordT r.data.toList = told 5 r.data.toList.length r.data.toList 127 by simp only [wordT,hi,hd,hw,Bool.false_eq_true,if_false,if_true])
         clear hi hd hw
         go_enter Tryz.func127,Tryz.ntmps127
         go_wp2_with fail
         refine (HR.out _).mono ?_
         rintro e w1 ⟨rfl,hb⟩
         obtain ⟨hc1,hf1⟩:=bcell hb
         have hB1 : w.heap.size + 2 ≤ w1.heap.size:=by have:=hb.size;simp at this;omega
         have hm1 : MaxW w1 m:=(hm.below bel).below hb
         go_wp2_with fail
         refine (class_as r _ HC.out hrs2 _).mono ?_
         rintro e w2 ⟨rfl,hb2⟩
         replace hb2:=hb2.mono hB1
         have hB2 : w.heap.size + 2 ≤ w2.heap.size:=Nat.le_trans hB1 hb2.size
         have hm2 : MaxW w2 m:=hm1.belowB hb2 (by have:=hm.lt;omega)
         obtain ⟨hc2,hf2⟩:=bcellB hb2
         go_wp2_with fail
         refine (read_bad r 3 HW.out hrs2 m _ hm2).mono ?_
         rintro e w3 ⟨rfl,hb3⟩
         replace hb3:=hb2.trans (hb3.mono hB2)
         have hB3 : w.heap.size + 2 ≤ w3.heap.size:=Nat.le_trans hB1 hb3.size
         obtain ⟨hc3,hf3⟩:=bcellB hb3
         go_wp2_with fail
         by_cases h127 : r.size ≤ 127
         · refine (told_in s a 5 _ r 127 (by unfold maxLen;omega) _ h127).mono ?_
           rintro e wz ⟨rfl,hb4⟩
           replace hb4:=hb3.trans (hb4.mono hB3)
           obtain ⟨hcz,hfz⟩:=bcellB hb4
           go_wp2
           refine bodyPost_ret (v:=.tuple #[.agg #[.int .i64 5,.int .i64 a,.int .i64 (a + N),.int .i64 0,.string r],.int .i64 0]) (by simp [results,Tryz.results127,go_sem,hcz,hfz,hc1,hf1]) rfl ⟨?_,bel⟩
           rw [HX.out];unfold told;rw [if_neg (show ¬ 127 < r.data.toList.length by rw [HL.out,← HS.out];omega)];simp [tokR,HL.out]
         · refine (told_long s a 5 _ r 127 (by unfold maxLen;omega) _ (by omega)).mono ?_
           rintro e wz ⟨rfl,hb4⟩
           replace hb4:=hb3.trans (hb4.mono hB3)
           obtain ⟨hcz,hfz⟩:=bcellB hb4
           go_wp2
           refine bodyPost_ret (v:=.tuple #[.agg #[.int .i64 0,.int .i64 0,.int .i64 0,.int .i64 0,.string ⟨#[]⟩],.int .i64 5]) (by simp [results,Tryz.results127,go_sem,hcz,hfz,hc1,hf1]) rfl ⟨?_,bel⟩
           rw [HX.out];unfold told;rw [if_pos (show 127 < r.data.toList.length by rw [HL.out,← HS.out];omega)];rfl
     | good n =>
       have HW:=Lh hw
       have HX:=Lh (show wordT r.data.toList = .good ⟨2,r.data.toList.length,n,[]⟩ by simp only [wordT,hi,hd,hw,Bool.false_eq_true,if_false,if_true])
       clear hi hd hw
       go_enter Tryz.func127,Tryz.ntmps127
       go_wp2_with fail
       refine (HR.out _).mono ?_
       rintro e w1 ⟨rfl,hb⟩
       obtain ⟨hc1,hf1⟩:=bcell hb
       have hB1 : w.heap.size + 2 ≤ w1.heap.size:=by have:=hb.size;simp at this;omega
       have hm1 : MaxW w1 m:=(hm.below bel).below hb
       go_wp2_with fail
       refine (class_as r _ HC.out hrs2 _).mono ?_
       rintro e w2 ⟨rfl,hb2⟩
       replace hb2:=hb2.mono hB1
       have hB2 : w.heap.size + 2 ≤ w2.heap.size:=Nat.le_trans hB1 hb2.size
       have hm2 : MaxW w2 m:=hm1.belowB hb2 (by have:=hm.lt;omega)
       obtain ⟨hc2,hf2⟩:=bcellB hb2
       go_wp2_with fail
       refine (read_good r n HW.out hrs2 m _ hm2).mono ?_
       rintro e wz ⟨rfl,hb4⟩
       replace hb4:=hb2.trans (hb4.mono hB2)
       obtain ⟨hcz,hfz⟩:=bcellB hb4
       go_wp2
       refine bodyPost_ret (v:=.tuple #[.agg #[.int .i64 2,.int .i64 a,.int .i64 (a + N),.int .i64 n,.string ⟨#[]⟩],.int .i64 0]) (by simp [results,Tryz.results127,go_sem,hcz,hfz,hc1,hf1]) rfl ⟨?_,bel⟩
       rw [HX.out];simp only [tokR,HL.out];simp
 · have HI:=Lh hi
   have HC:=Lh (clsOf_int hi)
   cases hw : wholeV r.data.toList with
   | bad e =>
     have he:=wholeV_cases hw
     subst he
     have HW:=Lh hw
     have HX:=Lh (show wordT r.data.toList = .bad 2 by simp only [wordT,hi,hw,if_true])
     clear hi hw
     go_enter Tryz.func127,Tryz.ntmps127
     go_wp2_with fail
     refine (HR.out _).mono ?_
     rintro e w1 ⟨rfl,hb⟩
     obtain ⟨hc1,hf1⟩:=bcell hb
     have hB1 : w.heap.size + 2 ≤ w1.heap.size:=by have:=hb.size;simp at this;omega
     have hm1 : MaxW w1 m:=(hm.below bel).below hb
     go_wp2_with fail
     refine (class_as r _ HC.out hrs2 _).mono ?_
     rintro e w2 ⟨rfl,hb2⟩
     replace hb2:=hb2.mono hB1
     have hB2 : w.heap.size + 2 ≤ w2.heap.size:=Nat.le_trans hB1 hb2.size
     have hm2 : MaxW w2 m:=hm1.belowB hb2 (by have:=hm.lt;omega)
     obtain ⟨hc2,hf2⟩:=bcellB hb2
     go_wp2_with fail
     refine (whole_bad r 2 HI.out HW.out hrs2 _).mono ?_
     rintro e w3 ⟨rfl,hb3⟩
     replace hb3:=hb2.trans (hb3.mono hB2)
     have hB3 : w.heap.size + 2 ≤ w3.heap.size:=Nat.le_trans hB1 hb3.size
     obtain ⟨hc3,hf3⟩:=bcellB hb3
     go_wp2_with fail
     refine (refused_in _ _).mono ?_
     rintro e wz ⟨rfl,hb4⟩
     replace hb4:=hb3.trans (hb4.mono hB3)
     obtain ⟨hcz,hfz⟩:=bcellB hb4
     go_wp2
     refine bodyPost_ret (v:=.tuple #[.agg #[.int .i64 0,.int .i64 0,.int .i64 0,.int .i64 0,.string ⟨#[]⟩],.int .i64 2]) (by simp [results,Tryz.results127,go_sem,hcz,hfz,hc1,hf1]) rfl ⟨by rw [HX.out];rfl,bel⟩
   | good n =>
     have HW:=Lh hw
     have HX:=Lh (show wordT r.data.toList = .good ⟨1,r.data.toList.length,n,[]⟩ by simp only [wordT,hi,hw,if_true])
     clear hi hw
     go_enter Tryz.func127,Tryz.ntmps127
     go_wp2_with fail
     refine (HR.out _).mono ?_
     rintro e w1 ⟨rfl,hb⟩
     obtain ⟨hc1,hf1⟩:=bcell hb
     have hB1 : w.heap.size + 2 ≤ w1.heap.size:=by have:=hb.size;simp at this;omega
     have hm1 : MaxW w1 m:=(hm.below bel).below hb
     go_wp2_with fail
     refine (class_as r _ HC.out hrs2 _).mono ?_
     rintro e w2 ⟨rfl,hb2⟩
     replace hb2:=hb2.mono hB1
     have hB2 : w.heap.size + 2 ≤ w2.heap.size:=Nat.le_trans hB1 hb2.size
     have hm2 : MaxW w2 m:=hm1.belowB hb2 (by have:=hm.lt;omega)
     obtain ⟨hc2,hf2⟩:=bcellB hb2
     go_wp2_with fail
     refine (whole_good r n HI.out HW.out hrs2 _).mono ?_
     rintro e wz ⟨rfl,hb4⟩
     replace hb4:=hb2.trans (hb4.mono hB2)
     obtain ⟨hcz,hfz⟩:=bcellB hb4
     go_wp2
     refine bodyPost_ret (v:=.tuple #[.agg #[.int .i64 1,.int .i64 a,.int .i64 (a + N),.int .i64 n,.string ⟨#[]⟩],.int .i64 0]) (by simp [results,Tryz.results127,go_sem,hcz,hfz,hc1,hf1]) rfl ⟨?_,bel⟩
     rw [HX.out];simp only [tokR,HL.out];simp
end Go.Proofs.YtinafodpgjbedaaGreatDoor
