/- The walk of the next token. -/
import Derived.Test.YtibffdaljmmdoaaGreatDoorGFix
set_option linter.all false
/- The walks of lex's words and of its exported function Next. -/
namespace Go.Proofs.YtibffdaljmmdoaaGreatDoor
open Go.RowKit Fo

theorem read_any (s : ByteArray) (hs : s.size ≤ 140737488355327) (m : Int) (w : World) (hm : MaxW w m) :
    Calls Tryz.prog 127 #[.string s] w fun e w' => e = .returned (intR (fixV s.data.toList)) ∧ Below w.heap.size w w' := by
  by_cases h : s.size ≤ 40
  · exact read_in s h m w hm
  · exact read_long s (by omega) hs w

theorem clsOf_int {l : L} (h : isInt l = true) : clsOf l = 1 := by simp [clsOf, h]
theorem clsOf_frac {l : L} (h : isInt l = false) (h2 : l.contains 46 = true) : clsOf l = 2 := by simp [clsOf, h]; simpa using h2
theorem clsOf_word {l : L} (h : isInt l = false) (h2 : l.contains 46 = false) : clsOf l = 0 := by simp [clsOf, h]; simpa using h2
theorem class_as (s : ByteArray) (k : Int) (h : clsOf s.data.toList = k) (hs : s.size ≤ 140737488355327) (w : World) :
    Calls Tryz.prog 125 #[.string s] w fun e w' => e = .returned (.int .i64 k) ∧ Below w.heap.size w w' := h ▸ class_in s hs w
theorem whole_bad (s : ByteArray) (k : Int) (h1 : isInt s.data.toList = true) (h : wholeV s.data.toList = .bad k) (hs : s.size ≤ 140737488355327) (w : World) :
    Calls Tryz.prog 126 #[.string s] w fun e w' => e = .returned (.tuple #[.int .i64 0, .int .i64 k]) ∧ Below w.heap.size w w' := by
  have := whole_in s hs h1 w; rw [h] at this; exact this
theorem whole_good (s : ByteArray) (k : Int) (h1 : isInt s.data.toList = true) (h : wholeV s.data.toList = .good k) (hs : s.size ≤ 140737488355327) (w : World) :
    Calls Tryz.prog 126 #[.string s] w fun e w' => e = .returned (.tuple #[.int .i64 k, .int .i64 0]) ∧ Below w.heap.size w w' := by
  have := whole_in s hs h1 w; rw [h] at this; exact this
theorem read_bad (s : ByteArray) (k : Int) (h : fixV s.data.toList = .bad k) (hs : s.size ≤ 140737488355327) (m : Int) (w : World) (hm : MaxW w m) :
    Calls Tryz.prog 127 #[.string s] w fun e w' => e = .returned (.tuple #[.int .i64 0, .int .i64 k]) ∧ Below w.heap.size w w' := by
  have := read_any s hs m w hm; rw [h] at this; exact this
theorem read_good (s : ByteArray) (k : Int) (h : fixV s.data.toList = .good k) (hs : s.size ≤ 140737488355327) (m : Int) (w : World) (hm : MaxW w m) :
    Calls Tryz.prog 127 #[.string s] w fun e w' => e = .returned (.tuple #[.int .i64 k, .int .i64 0]) ∧ Below w.heap.size w w' := by
  have := read_any s hs m w hm; rw [h] at this; exact this
theorem wholeV_cases {l : L} {e : Int} (h : wholeV l = .bad e) : e = 2 := by
  unfold wholeV at h; split at h
  · cases h; rfl
  · cases h
theorem fixV_cases {l : L} {e : Int} (h : fixV l = .bad e) : e = 2 ∨ e = 3 := by
  unfold fixV at h
  split at h
  · cases h; simp
  · split at h
    · cases h; simp
    · split at h
      · cases h; simp
      · dsimp only at h
        by_cases hb : 1073741824 < (if (if minus l then overHalf ((postDot (unsigned l)).drop 4) else atHalf ((postDot (unsigned l)).drop 4)) then val (preDot (unsigned l) ++ part4 (postDot (unsigned l))) + 1 else val (preDot (unsigned l) ++ part4 (postDot (unsigned l))))
        · rw [if_pos hb] at h; cases h; simp
        · rw [if_neg hb] at h; cases h

set_option maxRecDepth 100000 in
set_option maxHeartbeats 1000000 in
theorem word_in (s : ByteArray) (a : Nat) (ha : a < s.size) (hs : s.size ≤ 140737488355327) (m : Int) (w : World) (hm : MaxW w m) :
    Calls Tryz.prog 87 #[.agg #[.string s, .int .i64 a]] w fun e w' => e = .returned (tokR a (wordT ((s.data.toList.drop a).take (regN (s.data.toList.drop a))))) ∧ Below w.heap.size w w' := by
  have hmx : s.size ≤ maxLen := by unfold maxLen; omega
  obtain ⟨N, hN⟩ : ∃ N, regN (s.data.toList.drop a) = N := ⟨_, rfl⟩
  have hNle : a + N ≤ s.size := by have := regN_le (s.data.toList.drop a); rw [hN] at this; simp at this; omega
  have hrun := run_in s a a (by omega) hmx
  rw [hN] at hrun
  rw [hN]
  obtain ⟨r, hr⟩ : ∃ r, s.extract a (a + N) = r := ⟨_, rfl⟩
  have hrl : (s.data.toList.drop a).take N = r.data.toList := by rw [← hr, Lib.extract_data, show a + N - a = N by omega]
  have hrs : r.size = N := by rw [← hr]; simp; omega
  rw [hrl]
  have hlen : r.data.toList.length = N := hrs
  have HR := Lib.hid hrun
  have HS := Lib.hid hrs
  have HL := Lib.hid hlen
  have hrs2 : r.size ≤ 140737488355327 := by omega
  clear hrun hN hrl hrs hlen
  cases hi : isInt r.data.toList
  · cases hd : r.data.toList.contains 46
    · have HC := Lib.hid (clsOf_word hi hd)
      have HX := Lib.hid (show wordT r.data.toList = told 5 r.data.toList.length r.data.toList 127 by simp only [wordT, hi, hd, Bool.false_eq_true, if_false])
      clear hi hd
      go_enter Tryz.func87, Tryz.ntmps87
      go_wp2_with fail
      refine (HR.out _).mono ?_
      rintro e w1 ⟨rfl, hb⟩
      obtain ⟨hc1, hf1⟩ := bcell hb
      have hB1 : w.heap.size + 2 ≤ w1.heap.size := by have := hb.size; simp at this; omega
      have hm1 : MaxW w1 m := (hm.below (by repeat' (first | (with_reducible first | exact Below.refl _ _ | refine Below.drew ?_ | refine belowDrewN ?_ _ | refine belowIter ?_ ?_ _ _ | refine Below.setCell ?_ ?_ _ | refine Below.alloc ?_ ?_ _ | refine bT hb4 ?_ ?_ | refine bT hb3 ?_ ?_ | refine bT hb2 ?_ ?_ | refine bT hb1 ?_ ?_ | refine bT hbr ?_ ?_ | refine bT hb ?_ ?_) | (simp; done) | (simp; omega) | omega))).below hb
      go_wp2_with fail
      refine (class_as r _ HC.out hrs2 _).mono ?_
      rintro e w2 ⟨rfl, hb2⟩
      replace hb2 := hb2.mono hB1
      have hB2 : w.heap.size + 2 ≤ w2.heap.size := Nat.le_trans hB1 hb2.size
      have hm2 : MaxW w2 m := hm1.belowB hb2 (by have := hm.lt; omega)
      obtain ⟨hc2, hf2⟩ := bcellB hb2
      go_wp2_with fail
      by_cases h127 : r.size ≤ 127
      · refine (told_in s a 5 _ r 127 (by unfold maxLen; omega) _ h127).mono ?_
        rintro e wz ⟨rfl, hb4⟩
        replace hb4 := hb2.trans (hb4.mono hB2)
        obtain ⟨hcz, hfz⟩ := bcellB hb4
        go_wp2
        refine bodyPost_ret (v := .tuple #[.agg #[.int .i64 5, .int .i64 a, .int .i64 (a + N), .int .i64 0, .string r], .int .i64 0]) (by simp [results, Tryz.results87, go_sem, hcz, hfz, hc1, hf1]) rfl ⟨?_, (by repeat' (first | (with_reducible first | exact Below.refl _ _ | refine Below.drew ?_ | refine belowDrewN ?_ _ | refine belowIter ?_ ?_ _ _ | refine Below.setCell ?_ ?_ _ | refine Below.alloc ?_ ?_ _ | refine bT hb4 ?_ ?_ | refine bT hb3 ?_ ?_ | refine bT hb2 ?_ ?_ | refine bT hb1 ?_ ?_ | refine bT hbr ?_ ?_ | refine bT hb ?_ ?_) | (simp; done) | (simp; omega) | omega))⟩
        rw [HX.out]; unfold told; rw [if_neg (show ¬ 127 < r.data.toList.length by rw [HL.out, ← HS.out]; omega)]; simp [tokR, HL.out]
      · refine (told_long s a 5 _ r 127 (by unfold maxLen; omega) _ (by omega)).mono ?_
        rintro e wz ⟨rfl, hb4⟩
        replace hb4 := hb2.trans (hb4.mono hB2)
        obtain ⟨hcz, hfz⟩ := bcellB hb4
        go_wp2
        refine bodyPost_ret (v := .tuple #[.agg #[.int .i64 0, .int .i64 0, .int .i64 0, .int .i64 0, .string ⟨#[]⟩], .int .i64 5]) (by simp [results, Tryz.results87, go_sem, hcz, hfz, hc1, hf1]) rfl ⟨?_, (by repeat' (first | (with_reducible first | exact Below.refl _ _ | refine Below.drew ?_ | refine belowDrewN ?_ _ | refine belowIter ?_ ?_ _ _ | refine Below.setCell ?_ ?_ _ | refine Below.alloc ?_ ?_ _ | refine bT hb4 ?_ ?_ | refine bT hb3 ?_ ?_ | refine bT hb2 ?_ ?_ | refine bT hb1 ?_ ?_ | refine bT hbr ?_ ?_ | refine bT hb ?_ ?_) | (simp; done) | (simp; omega) | omega))⟩
        rw [HX.out]; unfold told; rw [if_pos (show 127 < r.data.toList.length by rw [HL.out, ← HS.out]; omega)]; rfl
    · have HC := Lib.hid (clsOf_frac hi hd)
      cases hw : fixV r.data.toList with
      | bad e =>
        have HW := Lib.hid hw
        rcases fixV_cases hw with rfl | rfl
        · have HX := Lib.hid (show wordT r.data.toList = .bad 2 by simp only [wordT, hi, hd, hw, Bool.false_eq_true, if_false, if_true])
          clear hi hd hw
          go_enter Tryz.func87, Tryz.ntmps87
          go_wp2_with fail
          refine (HR.out _).mono ?_
          rintro e w1 ⟨rfl, hb⟩
          obtain ⟨hc1, hf1⟩ := bcell hb
          have hB1 : w.heap.size + 2 ≤ w1.heap.size := by have := hb.size; simp at this; omega
          have hm1 : MaxW w1 m := (hm.below (by repeat' (first | (with_reducible first | exact Below.refl _ _ | refine Below.drew ?_ | refine belowDrewN ?_ _ | refine belowIter ?_ ?_ _ _ | refine Below.setCell ?_ ?_ _ | refine Below.alloc ?_ ?_ _ | refine bT hb4 ?_ ?_ | refine bT hb3 ?_ ?_ | refine bT hb2 ?_ ?_ | refine bT hb1 ?_ ?_ | refine bT hbr ?_ ?_ | refine bT hb ?_ ?_) | (simp; done) | (simp; omega) | omega))).below hb
          go_wp2_with fail
          refine (class_as r _ HC.out hrs2 _).mono ?_
          rintro e w2 ⟨rfl, hb2⟩
          replace hb2 := hb2.mono hB1
          have hB2 : w.heap.size + 2 ≤ w2.heap.size := Nat.le_trans hB1 hb2.size
          have hm2 : MaxW w2 m := hm1.belowB hb2 (by have := hm.lt; omega)
          obtain ⟨hc2, hf2⟩ := bcellB hb2
          go_wp2_with fail
          refine (read_bad r 2 HW.out hrs2 m _ hm2).mono ?_
          rintro e w3 ⟨rfl, hb3⟩
          replace hb3 := hb2.trans (hb3.mono hB2)
          have hB3 : w.heap.size + 2 ≤ w3.heap.size := Nat.le_trans hB1 hb3.size
          obtain ⟨hc3, hf3⟩ := bcellB hb3
          go_wp2_with fail
          refine (refused_in _ _).mono ?_
          rintro e wz ⟨rfl, hb4⟩
          replace hb4 := hb3.trans (hb4.mono hB3)
          obtain ⟨hcz, hfz⟩ := bcellB hb4
          go_wp2
          refine bodyPost_ret (v := .tuple #[.agg #[.int .i64 0, .int .i64 0, .int .i64 0, .int .i64 0, .string ⟨#[]⟩], .int .i64 2]) (by simp [results, Tryz.results87, go_sem, hcz, hfz, hc1, hf1]) rfl ⟨by rw [HX.out]; rfl, (by repeat' (first | (with_reducible first | exact Below.refl _ _ | refine Below.drew ?_ | refine belowDrewN ?_ _ | refine belowIter ?_ ?_ _ _ | refine Below.setCell ?_ ?_ _ | refine Below.alloc ?_ ?_ _ | refine bT hb4 ?_ ?_ | refine bT hb3 ?_ ?_ | refine bT hb2 ?_ ?_ | refine bT hb1 ?_ ?_ | refine bT hbr ?_ ?_ | refine bT hb ?_ ?_) | (simp; done) | (simp; omega) | omega))⟩
        · have HX := Lib.hid (show wordT r.data.toList = told 5 r.data.toList.length r.data.toList 127 by simp only [wordT, hi, hd, hw, Bool.false_eq_true, if_false, if_true])
          clear hi hd hw
          go_enter Tryz.func87, Tryz.ntmps87
          go_wp2_with fail
          refine (HR.out _).mono ?_
          rintro e w1 ⟨rfl, hb⟩
          obtain ⟨hc1, hf1⟩ := bcell hb
          have hB1 : w.heap.size + 2 ≤ w1.heap.size := by have := hb.size; simp at this; omega
          have hm1 : MaxW w1 m := (hm.below (by repeat' (first | (with_reducible first | exact Below.refl _ _ | refine Below.drew ?_ | refine belowDrewN ?_ _ | refine belowIter ?_ ?_ _ _ | refine Below.setCell ?_ ?_ _ | refine Below.alloc ?_ ?_ _ | refine bT hb4 ?_ ?_ | refine bT hb3 ?_ ?_ | refine bT hb2 ?_ ?_ | refine bT hb1 ?_ ?_ | refine bT hbr ?_ ?_ | refine bT hb ?_ ?_) | (simp; done) | (simp; omega) | omega))).below hb
          go_wp2_with fail
          refine (class_as r _ HC.out hrs2 _).mono ?_
          rintro e w2 ⟨rfl, hb2⟩
          replace hb2 := hb2.mono hB1
          have hB2 : w.heap.size + 2 ≤ w2.heap.size := Nat.le_trans hB1 hb2.size
          have hm2 : MaxW w2 m := hm1.belowB hb2 (by have := hm.lt; omega)
          obtain ⟨hc2, hf2⟩ := bcellB hb2
          go_wp2_with fail
          refine (read_bad r 3 HW.out hrs2 m _ hm2).mono ?_
          rintro e w3 ⟨rfl, hb3⟩
          replace hb3 := hb2.trans (hb3.mono hB2)
          have hB3 : w.heap.size + 2 ≤ w3.heap.size := Nat.le_trans hB1 hb3.size
          obtain ⟨hc3, hf3⟩ := bcellB hb3
          go_wp2_with fail
          by_cases h127 : r.size ≤ 127
          · refine (told_in s a 5 _ r 127 (by unfold maxLen; omega) _ h127).mono ?_
            rintro e wz ⟨rfl, hb4⟩
            replace hb4 := hb3.trans (hb4.mono hB3)
            obtain ⟨hcz, hfz⟩ := bcellB hb4
            go_wp2
            refine bodyPost_ret (v := .tuple #[.agg #[.int .i64 5, .int .i64 a, .int .i64 (a + N), .int .i64 0, .string r], .int .i64 0]) (by simp [results, Tryz.results87, go_sem, hcz, hfz, hc1, hf1]) rfl ⟨?_, (by repeat' (first | (with_reducible first | exact Below.refl _ _ | refine Below.drew ?_ | refine belowDrewN ?_ _ | refine belowIter ?_ ?_ _ _ | refine Below.setCell ?_ ?_ _ | refine Below.alloc ?_ ?_ _ | refine bT hb4 ?_ ?_ | refine bT hb3 ?_ ?_ | refine bT hb2 ?_ ?_ | refine bT hb1 ?_ ?_ | refine bT hbr ?_ ?_ | refine bT hb ?_ ?_) | (simp; done) | (simp; omega) | omega))⟩
            rw [HX.out]; unfold told; rw [if_neg (show ¬ 127 < r.data.toList.length by rw [HL.out, ← HS.out]; omega)]; simp [tokR, HL.out]
          · refine (told_long s a 5 _ r 127 (by unfold maxLen; omega) _ (by omega)).mono ?_
            rintro e wz ⟨rfl, hb4⟩
            replace hb4 := hb3.trans (hb4.mono hB3)
            obtain ⟨hcz, hfz⟩ := bcellB hb4
            go_wp2
            refine bodyPost_ret (v := .tuple #[.agg #[.int .i64 0, .int .i64 0, .int .i64 0, .int .i64 0, .string ⟨#[]⟩], .int .i64 5]) (by simp [results, Tryz.results87, go_sem, hcz, hfz, hc1, hf1]) rfl ⟨?_, (by repeat' (first | (with_reducible first | exact Below.refl _ _ | refine Below.drew ?_ | refine belowDrewN ?_ _ | refine belowIter ?_ ?_ _ _ | refine Below.setCell ?_ ?_ _ | refine Below.alloc ?_ ?_ _ | refine bT hb4 ?_ ?_ | refine bT hb3 ?_ ?_ | refine bT hb2 ?_ ?_ | refine bT hb1 ?_ ?_ | refine bT hbr ?_ ?_ | refine bT hb ?_ ?_) | (simp; done) | (simp; omega) | omega))⟩
            rw [HX.out]; unfold told; rw [if_pos (show 127 < r.data.toList.length by rw [HL.out, ← HS.out]; omega)]; rfl
      | good n =>
        have HW := Lib.hid hw
        have HX := Lib.hid (show wordT r.data.toList = .good ⟨2, r.data.toList.length, n, []⟩ by simp only [wordT, hi, hd, hw, Bool.false_eq_true, if_false, if_true])
        clear hi hd hw
        go_enter Tryz.func87, Tryz.ntmps87
        go_wp2_with fail
        refine (HR.out _).mono ?_
        rintro e w1 ⟨rfl, hb⟩
        obtain ⟨hc1, hf1⟩ := bcell hb
        have hB1 : w.heap.size + 2 ≤ w1.heap.size := by have := hb.size; simp at this; omega
        have hm1 : MaxW w1 m := (hm.below (by repeat' (first | (with_reducible first | exact Below.refl _ _ | refine Below.drew ?_ | refine belowDrewN ?_ _ | refine belowIter ?_ ?_ _ _ | refine Below.setCell ?_ ?_ _ | refine Below.alloc ?_ ?_ _ | refine bT hb4 ?_ ?_ | refine bT hb3 ?_ ?_ | refine bT hb2 ?_ ?_ | refine bT hb1 ?_ ?_ | refine bT hbr ?_ ?_ | refine bT hb ?_ ?_) | (simp; done) | (simp; omega) | omega))).below hb
        go_wp2_with fail
        refine (class_as r _ HC.out hrs2 _).mono ?_
        rintro e w2 ⟨rfl, hb2⟩
        replace hb2 := hb2.mono hB1
        have hB2 : w.heap.size + 2 ≤ w2.heap.size := Nat.le_trans hB1 hb2.size
        have hm2 : MaxW w2 m := hm1.belowB hb2 (by have := hm.lt; omega)
        obtain ⟨hc2, hf2⟩ := bcellB hb2
        go_wp2_with fail
        refine (read_good r n HW.out hrs2 m _ hm2).mono ?_
        rintro e wz ⟨rfl, hb4⟩
        replace hb4 := hb2.trans (hb4.mono hB2)
        obtain ⟨hcz, hfz⟩ := bcellB hb4
        go_wp2
        refine bodyPost_ret (v := .tuple #[.agg #[.int .i64 2, .int .i64 a, .int .i64 (a + N), .int .i64 n, .string ⟨#[]⟩], .int .i64 0]) (by simp [results, Tryz.results87, go_sem, hcz, hfz, hc1, hf1]) rfl ⟨?_, (by repeat' (first | (with_reducible first | exact Below.refl _ _ | refine Below.drew ?_ | refine belowDrewN ?_ _ | refine belowIter ?_ ?_ _ _ | refine Below.setCell ?_ ?_ _ | refine Below.alloc ?_ ?_ _ | refine bT hb4 ?_ ?_ | refine bT hb3 ?_ ?_ | refine bT hb2 ?_ ?_ | refine bT hb1 ?_ ?_ | refine bT hbr ?_ ?_ | refine bT hb ?_ ?_) | (simp; done) | (simp; omega) | omega))⟩
        rw [HX.out]; simp only [tokR, HL.out]; simp
  · have HI := Lib.hid hi
    have HC := Lib.hid (clsOf_int hi)
    cases hw : wholeV r.data.toList with
    | bad e =>
      have he := wholeV_cases hw
      subst he
      have HW := Lib.hid hw
      have HX := Lib.hid (show wordT r.data.toList = .bad 2 by simp only [wordT, hi, hw, if_true])
      clear hi hw
      go_enter Tryz.func87, Tryz.ntmps87
      go_wp2_with fail
      refine (HR.out _).mono ?_
      rintro e w1 ⟨rfl, hb⟩
      obtain ⟨hc1, hf1⟩ := bcell hb
      have hB1 : w.heap.size + 2 ≤ w1.heap.size := by have := hb.size; simp at this; omega
      have hm1 : MaxW w1 m := (hm.below (by repeat' (first | (with_reducible first | exact Below.refl _ _ | refine Below.drew ?_ | refine belowDrewN ?_ _ | refine belowIter ?_ ?_ _ _ | refine Below.setCell ?_ ?_ _ | refine Below.alloc ?_ ?_ _ | refine bT hb4 ?_ ?_ | refine bT hb3 ?_ ?_ | refine bT hb2 ?_ ?_ | refine bT hb1 ?_ ?_ | refine bT hbr ?_ ?_ | refine bT hb ?_ ?_) | (simp; done) | (simp; omega) | omega))).below hb
      go_wp2_with fail
      refine (class_as r _ HC.out hrs2 _).mono ?_
      rintro e w2 ⟨rfl, hb2⟩
      replace hb2 := hb2.mono hB1
      have hB2 : w.heap.size + 2 ≤ w2.heap.size := Nat.le_trans hB1 hb2.size
      have hm2 : MaxW w2 m := hm1.belowB hb2 (by have := hm.lt; omega)
      obtain ⟨hc2, hf2⟩ := bcellB hb2
      go_wp2_with fail
      refine (whole_bad r 2 HI.out HW.out hrs2 _).mono ?_
      rintro e w3 ⟨rfl, hb3⟩
      replace hb3 := hb2.trans (hb3.mono hB2)
      have hB3 : w.heap.size + 2 ≤ w3.heap.size := Nat.le_trans hB1 hb3.size
      obtain ⟨hc3, hf3⟩ := bcellB hb3
      go_wp2_with fail
      refine (refused_in _ _).mono ?_
      rintro e wz ⟨rfl, hb4⟩
      replace hb4 := hb3.trans (hb4.mono hB3)
      obtain ⟨hcz, hfz⟩ := bcellB hb4
      go_wp2
      refine bodyPost_ret (v := .tuple #[.agg #[.int .i64 0, .int .i64 0, .int .i64 0, .int .i64 0, .string ⟨#[]⟩], .int .i64 2]) (by simp [results, Tryz.results87, go_sem, hcz, hfz, hc1, hf1]) rfl ⟨by rw [HX.out]; rfl, (by repeat' (first | (with_reducible first | exact Below.refl _ _ | refine Below.drew ?_ | refine belowDrewN ?_ _ | refine belowIter ?_ ?_ _ _ | refine Below.setCell ?_ ?_ _ | refine Below.alloc ?_ ?_ _ | refine bT hb4 ?_ ?_ | refine bT hb3 ?_ ?_ | refine bT hb2 ?_ ?_ | refine bT hb1 ?_ ?_ | refine bT hbr ?_ ?_ | refine bT hb ?_ ?_) | (simp; done) | (simp; omega) | omega))⟩
    | good n =>
      have HW := Lib.hid hw
      have HX := Lib.hid (show wordT r.data.toList = .good ⟨1, r.data.toList.length, n, []⟩ by simp only [wordT, hi, hw, if_true])
      clear hi hw
      go_enter Tryz.func87, Tryz.ntmps87
      go_wp2_with fail
      refine (HR.out _).mono ?_
      rintro e w1 ⟨rfl, hb⟩
      obtain ⟨hc1, hf1⟩ := bcell hb
      have hB1 : w.heap.size + 2 ≤ w1.heap.size := by have := hb.size; simp at this; omega
      have hm1 : MaxW w1 m := (hm.below (by repeat' (first | (with_reducible first | exact Below.refl _ _ | refine Below.drew ?_ | refine belowDrewN ?_ _ | refine belowIter ?_ ?_ _ _ | refine Below.setCell ?_ ?_ _ | refine Below.alloc ?_ ?_ _ | refine bT hb4 ?_ ?_ | refine bT hb3 ?_ ?_ | refine bT hb2 ?_ ?_ | refine bT hb1 ?_ ?_ | refine bT hbr ?_ ?_ | refine bT hb ?_ ?_) | (simp; done) | (simp; omega) | omega))).below hb
      go_wp2_with fail
      refine (class_as r _ HC.out hrs2 _).mono ?_
      rintro e w2 ⟨rfl, hb2⟩
      replace hb2 := hb2.mono hB1
      have hB2 : w.heap.size + 2 ≤ w2.heap.size := Nat.le_trans hB1 hb2.size
      have hm2 : MaxW w2 m := hm1.belowB hb2 (by have := hm.lt; omega)
      obtain ⟨hc2, hf2⟩ := bcellB hb2
      go_wp2_with fail
      refine (whole_good r n HI.out HW.out hrs2 _).mono ?_
      rintro e wz ⟨rfl, hb4⟩
      replace hb4 := hb2.trans (hb4.mono hB2)
      obtain ⟨hcz, hfz⟩ := bcellB hb4
      go_wp2
      refine bodyPost_ret (v := .tuple #[.agg #[.int .i64 1, .int .i64 a, .int .i64 (a + N), .int .i64 n, .string ⟨#[]⟩], .int .i64 0]) (by simp [results, Tryz.results87, go_sem, hcz, hfz, hc1, hf1]) rfl ⟨?_, (by repeat' (first | (with_reducible first | exact Below.refl _ _ | refine Below.drew ?_ | refine belowDrewN ?_ _ | refine belowIter ?_ ?_ _ _ | refine Below.setCell ?_ ?_ _ | refine Below.alloc ?_ ?_ _ | refine bT hb4 ?_ ?_ | refine bT hb3 ?_ ?_ | refine bT hb2 ?_ ?_ | refine bT hb1 ?_ ?_ | refine bT hbr ?_ ?_ | refine bT hb ?_ ?_) | (simp; done) | (simp; omega) | omega))⟩
      rw [HX.out]; simp only [tokR, HL.out]; simp
end Go.Proofs.YtibffdaljmmdoaaGreatDoor
/- The walk of lex.Next. -/
namespace Go.Proofs.YtibffdaljmmdoaaGreatDoor
open Go.RowKit Fo
theorem tok_bad {f : FuncId} {args : Array Value} {w : World} {a : Nat} {X : Res Tok} {k : Int} (h : X = .bad k)
    (hc : Calls Tryz.prog f args w fun e w' => e = .returned (tokR a X) ∧ Below w.heap.size w w') :
    Calls Tryz.prog f args w fun e w' => e = .returned (.tuple #[.agg #[.int .i64 0, .int .i64 0, .int .i64 0, .int .i64 0, .string ⟨#[]⟩], .int .i64 k]) ∧ Below w.heap.size w w' := by
  rw [h] at hc; exact hc
theorem tok_good {f : FuncId} {args : Array Value} {w : World} {a : Nat} {X : Res Tok} {t : Tok} (h : X = .good t)
    (hc : Calls Tryz.prog f args w fun e w' => e = .returned (tokR a X) ∧ Below w.heap.size w w') :
    Calls Tryz.prog f args w fun e w' => e = .returned (.tuple #[.agg #[.int .i64 t.kind, .int .i64 a, .int .i64 (a + t.len : Nat), .int .i64 t.n, .string ⟨t.s.toArray⟩], .int .i64 0]) ∧ Below w.heap.size w w' := by
  rw [h] at hc; exact hc
theorem skip_as (s : ByteArray) (a p : Nat) (h : a + skipN false (s.data.toList.drop a) = p) (ha : a ≤ s.size) (hs : s.size ≤ maxLen) (w : World) :
    Calls Tryz.prog 81 #[.string s, .int .i64 a] w fun e w' => e = .returned (.int .i64 p) ∧ w' = w := by
  rw [← h]; exact skip_in s a ha hs w
theorem double_at (s : ByteArray) (p : Nat) (b : Bool) (hp : p < s.size) (hs : s.size ≤ maxLen) (hb : ((s.data.toList.drop (p + 1)).head? == some s[p]) = b) (w : World) :
    Calls Tryz.prog 82 #[.string s, .string (s.extract p (p + 1)), .int .i64 ((p : Int) + 1)] w fun e w' => e = .returned (.bool b) ∧ w' = w := by
  refine begins_as s _ (p + 1) b ?_ (by omega) hs w
  rw [ext1 s p hp, ← hb]
  cases s.data.toList.drop (p + 1) with
  | nil => simp [Lib.hasPrefix]
  | cons d l => simp [Lib.hasPrefix, List.isPrefixOf, Bool.beq_comm]
theorem ext2 (s : ByteArray) (p : Nat) (hp : p + 1 < s.size) : s.extract p (p + 2) = ⟨#[s[p], s[p + 1]]⟩ := by
  apply ByteArray.ext_iff.2
  apply Array.toList_inj.1
  rw [Lib.extract_data, drop_get s p (by omega), drop_get s (p + 1) hp]
  simp
theorem dbl_lt {s : ByteArray} {p : Nat} {c : UInt8} (h : (s.data.toList.drop (p + 1)).head? = some c) : ∃ h : p + 1 < s.size, s[p + 1] = c := by
  have hk : p + 1 < s.size := by
    apply Classical.byContradiction; intro h2
    rw [List.drop_eq_nil_of_le (by have : s.data.toList.length = s.size := rfl; omega)] at h; simp at h
  refine ⟨hk, ?_⟩
  rw [drop_get s _ hk] at h
  simpa using h
set_option maxRecDepth 100000 in
set_option maxHeartbeats 4000000 in
theorem next_in (s : ByteArray) (a : Nat) (ha : a ≤ s.size) (hs : s.size ≤ 140737488355327) (m : Int) (w : World) (hm : MaxW w m) :
    Calls Tryz.prog 63 #[.string s, .int .i64 a] w fun e w' => e = .returned (tokR (a + (nextT (s.data.toList.drop a)).1) (nextT (s.data.toList.drop a)).2) ∧ Below w.heap.size w w' := by
  have hmx : Hid (s.size ≤ maxLen) := by unfold maxLen; show _ ≤ _; omega
  have hz0 : decide ((a : Int) < 0) = false := by simp
  have hz1 : decide (s.size < a) = false := by simp; omega
  unfold nextT
  obtain ⟨p, hp0⟩ : ∃ p, a + skipN false (s.data.toList.drop a) = p := ⟨_, rfl⟩
  have hple : p ≤ s.size := by have := skipN_le false (s.data.toList.drop a); simp at this; omega
  rw [List.drop_drop]
  simp only [hp0]
  have HP := Lib.hid hp0
  clear hp0
  by_cases hp : p < s.size
  · have hne : s.data.toList.drop p ≠ [] := by rw [drop_get s p hp]; simp
    rw [if_neg hne]
    obtain ⟨X, hX⟩ : ∃ X, tokT (s.data.toList.drop p) = X := ⟨_, rfl⟩
    rw [hX]
    have hX0 := Lib.hid hX
    rw [drop_get s p hp] at hX
    unfold tokT at hX
    have hpe : ((p : Int) == (s.size : Int)) = false := by simp; omega
    have hm2 : MaxW ((w.alloc (.cells #[.int .i64 0, .int .i64 0, .int .i64 0, .int .i64 0, .string ⟨#[]⟩] 59)).alloc (.cells #[.string s, .int .i64 p] 121)) m := hm.below (by repeat' (first | (with_reducible first | exact Below.refl _ _ | refine Below.drew ?_ | refine belowDrewN ?_ _ | refine belowIter ?_ ?_ _ _ | refine Below.setCell ?_ ?_ _ | refine Below.alloc ?_ ?_ _ | refine bT hb4 ?_ ?_ | refine bT hb3 ?_ ?_ | refine bT hb2 ?_ ?_ | refine bT hb1 ?_ ?_ | refine bT hbr ?_ ?_ | refine bT hb ?_ ?_) | (simp; done) | (simp; omega) | omega))
    clear hne
    by_cases h91 : s[p] = 91
    · have t91 : ((s[p].toNat : Int) == 91) = true := eq_yes (n := 91) (by decide) h91
      have HX := Lib.hid (show X = .good ⟨6, 1, 0, [s[p]]⟩ by rw [← hX, h91]; rfl)
      have HE := Lib.hid (ext1 s p hp)
      obtain ⟨b, hd⟩ : ∃ b, ((s.data.toList.drop (p + 1)).head? == some s[p]) = b := ⟨_, rfl⟩
      have HD := Lib.hid hd
      clear hX hd h91
      go_enter Tryz.func63, Tryz.ntmps63
      go_wp2_with (go_at_call 81; refine (skip_as _ _ p HP.out ha hmx.out _).mono ?_; rintro e w' ⟨rfl, rfl⟩)
      go_quiet ((go_at_call 82; exact Calls.quiet_of_same (double_at s p _ hp hmx.out HD.out _)))
      go_wp2_with fail
      refine (mark_in s p 1 (by omega) hmx.out _).mono ?_
      rintro e wz ⟨rfl, hb⟩
      obtain ⟨hcz, hfz⟩ := bcell hb
      have hsz : w.heap.size + 2 ≤ wz.heap.size := by have := hb.size; simp at this; omega
      go_wp2
      refine bodyPost_ret (v := .tuple #[.agg #[.int .i64 6, .int .i64 p, .int .i64 (p + 1), .int .i64 0, .string (s.extract p (p + 1))], .int .i64 0]) (by simp [results, Tryz.results63, go_sem, hcz, hfz, show w.heap.size < w.heap.size + 1 + 1 by omega]) rfl ⟨by rw [HX.out, HE.out]; simp [tokR], (by repeat' (first | (with_reducible first | exact Below.refl _ _ | refine Below.drew ?_ | refine belowDrewN ?_ _ | refine belowIter ?_ ?_ _ _ | refine Below.setCell ?_ ?_ _ | refine Below.alloc ?_ ?_ _ | refine bT hb4 ?_ ?_ | refine bT hb3 ?_ ?_ | refine bT hb2 ?_ ?_ | refine bT hb1 ?_ ?_ | refine bT hbr ?_ ?_ | refine bT hb ?_ ?_) | (simp; done) | (simp; omega) | omega))⟩
    · have t91 : ((s[p].toNat : Int) == 91) = false := eq_no (n := 91) (by decide) h91
      have g91 := h91
      clear h91
      by_cases h93 : s[p] = 93
      · have t93 : ((s[p].toNat : Int) == 93) = true := eq_yes (n := 93) (by decide) h93
        have HX := Lib.hid (show X = .good ⟨6, 1, 0, [s[p]]⟩ by rw [← hX, h93]; rfl)
        have HE := Lib.hid (ext1 s p hp)
        obtain ⟨b, hd⟩ : ∃ b, ((s.data.toList.drop (p + 1)).head? == some s[p]) = b := ⟨_, rfl⟩
        have HD := Lib.hid hd
        clear hX hd h93 g91
        go_enter Tryz.func63, Tryz.ntmps63
        go_wp2_with (go_at_call 81; refine (skip_as _ _ p HP.out ha hmx.out _).mono ?_; rintro e w' ⟨rfl, rfl⟩)
        go_quiet ((go_at_call 82; exact Calls.quiet_of_same (double_at s p _ hp hmx.out HD.out _)))
        go_wp2_with fail
        refine (mark_in s p 1 (by omega) hmx.out _).mono ?_
        rintro e wz ⟨rfl, hb⟩
        obtain ⟨hcz, hfz⟩ := bcell hb
        have hsz : w.heap.size + 2 ≤ wz.heap.size := by have := hb.size; simp at this; omega
        go_wp2
        refine bodyPost_ret (v := .tuple #[.agg #[.int .i64 6, .int .i64 p, .int .i64 (p + 1), .int .i64 0, .string (s.extract p (p + 1))], .int .i64 0]) (by simp [results, Tryz.results63, go_sem, hcz, hfz, show w.heap.size < w.heap.size + 1 + 1 by omega]) rfl ⟨by rw [HX.out, HE.out]; simp [tokR], (by repeat' (first | (with_reducible first | exact Below.refl _ _ | refine Below.drew ?_ | refine belowDrewN ?_ _ | refine belowIter ?_ ?_ _ _ | refine Below.setCell ?_ ?_ _ | refine Below.alloc ?_ ?_ _ | refine bT hb4 ?_ ?_ | refine bT hb3 ?_ ?_ | refine bT hb2 ?_ ?_ | refine bT hb1 ?_ ?_ | refine bT hbr ?_ ?_ | refine bT hb ?_ ?_) | (simp; done) | (simp; omega) | omega))⟩
      · have t93 : ((s[p].toNat : Int) == 93) = false := eq_no (n := 93) (by decide) h93
        have g93 := h93
        clear h93
        by_cases h123 : s[p] = 123
        · have t123 : ((s[p].toNat : Int) == 123) = true := eq_yes (n := 123) (by decide) h123
          have HX := Lib.hid (show X = .good ⟨6, 1, 0, [s[p]]⟩ by rw [← hX, h123]; rfl)
          have HE := Lib.hid (ext1 s p hp)
          obtain ⟨b, hd⟩ : ∃ b, ((s.data.toList.drop (p + 1)).head? == some s[p]) = b := ⟨_, rfl⟩
          have HD := Lib.hid hd
          clear hX hd h123 g91 g93
          go_enter Tryz.func63, Tryz.ntmps63
          go_wp2_with (go_at_call 81; refine (skip_as _ _ p HP.out ha hmx.out _).mono ?_; rintro e w' ⟨rfl, rfl⟩)
          go_quiet ((go_at_call 82; exact Calls.quiet_of_same (double_at s p _ hp hmx.out HD.out _)))
          go_wp2_with fail
          refine (mark_in s p 1 (by omega) hmx.out _).mono ?_
          rintro e wz ⟨rfl, hb⟩
          obtain ⟨hcz, hfz⟩ := bcell hb
          have hsz : w.heap.size + 2 ≤ wz.heap.size := by have := hb.size; simp at this; omega
          go_wp2
          refine bodyPost_ret (v := .tuple #[.agg #[.int .i64 6, .int .i64 p, .int .i64 (p + 1), .int .i64 0, .string (s.extract p (p + 1))], .int .i64 0]) (by simp [results, Tryz.results63, go_sem, hcz, hfz, show w.heap.size < w.heap.size + 1 + 1 by omega]) rfl ⟨by rw [HX.out, HE.out]; simp [tokR], (by repeat' (first | (with_reducible first | exact Below.refl _ _ | refine Below.drew ?_ | refine belowDrewN ?_ _ | refine belowIter ?_ ?_ _ _ | refine Below.setCell ?_ ?_ _ | refine Below.alloc ?_ ?_ _ | refine bT hb4 ?_ ?_ | refine bT hb3 ?_ ?_ | refine bT hb2 ?_ ?_ | refine bT hb1 ?_ ?_ | refine bT hbr ?_ ?_ | refine bT hb ?_ ?_) | (simp; done) | (simp; omega) | omega))⟩
        · have t123 : ((s[p].toNat : Int) == 123) = false := eq_no (n := 123) (by decide) h123
          have g123 := h123
          clear h123
          by_cases h125 : s[p] = 125
          · have t125 : ((s[p].toNat : Int) == 125) = true := eq_yes (n := 125) (by decide) h125
            have HX := Lib.hid (show X = .good ⟨6, 1, 0, [s[p]]⟩ by rw [← hX, h125]; rfl)
            have HE := Lib.hid (ext1 s p hp)
            obtain ⟨b, hd⟩ : ∃ b, ((s.data.toList.drop (p + 1)).head? == some s[p]) = b := ⟨_, rfl⟩
            have HD := Lib.hid hd
            clear hX hd h125 g91 g93 g123
            go_enter Tryz.func63, Tryz.ntmps63
            go_wp2_with (go_at_call 81; refine (skip_as _ _ p HP.out ha hmx.out _).mono ?_; rintro e w' ⟨rfl, rfl⟩)
            go_quiet ((go_at_call 82; exact Calls.quiet_of_same (double_at s p _ hp hmx.out HD.out _)))
            go_wp2_with fail
            refine (mark_in s p 1 (by omega) hmx.out _).mono ?_
            rintro e wz ⟨rfl, hb⟩
            obtain ⟨hcz, hfz⟩ := bcell hb
            have hsz : w.heap.size + 2 ≤ wz.heap.size := by have := hb.size; simp at this; omega
            go_wp2
            refine bodyPost_ret (v := .tuple #[.agg #[.int .i64 6, .int .i64 p, .int .i64 (p + 1), .int .i64 0, .string (s.extract p (p + 1))], .int .i64 0]) (by simp [results, Tryz.results63, go_sem, hcz, hfz, show w.heap.size < w.heap.size + 1 + 1 by omega]) rfl ⟨by rw [HX.out, HE.out]; simp [tokR], (by repeat' (first | (with_reducible first | exact Below.refl _ _ | refine Below.drew ?_ | refine belowDrewN ?_ _ | refine belowIter ?_ ?_ _ _ | refine Below.setCell ?_ ?_ _ | refine Below.alloc ?_ ?_ _ | refine bT hb4 ?_ ?_ | refine bT hb3 ?_ ?_ | refine bT hb2 ?_ ?_ | refine bT hb1 ?_ ?_ | refine bT hbr ?_ ?_ | refine bT hb ?_ ?_) | (simp; done) | (simp; omega) | omega))⟩
          · have t125 : ((s[p].toNat : Int) == 125) = false := eq_no (n := 125) (by decide) h125
            have g125 := h125
            clear h125
            by_cases h60 : s[p] = 60
            · have t60 : ((s[p].toNat : Int) == 60) = true := eq_yes (n := 60) (by decide) h60
              cases hd : ((s.data.toList.drop (p + 1)).head? == some s[p])
              · have HD := Lib.hid hd
                have hXX : hexT (s.data.toList.drop (p + 1)) = X := by
                  rw [h60] at hd; simp only [beq_eq_false_iff_ne, ne_eq] at hd; rw [← hX, h60]; dsimp only; rw [if_neg (by decide), if_pos (by decide), if_neg hd]
                clear hX hd h60 g91 g93 g123 g125
                cases X with
                | bad k =>
                  have HXX := Lib.hid hXX
                  clear hXX
                  go_enter Tryz.func63, Tryz.ntmps63
                  go_wp2_with (go_at_call 81; refine (skip_as _ _ p HP.out ha hmx.out _).mono ?_; rintro e w' ⟨rfl, rfl⟩)
                  go_quiet ((go_at_call 82; exact Calls.quiet_of_same (double_at s p _ hp hmx.out HD.out _)))
                  go_wp2_with fail
                  refine (tok_bad HXX.out (hex_in s p hp hs _)).mono ?_
                  rintro e wz ⟨rfl, hb⟩
                  obtain ⟨hcz, hfz⟩ := bcell hb
                  have hsz : w.heap.size + 2 ≤ wz.heap.size := by have := hb.size; simp at this; omega
                  go_wp2
                  refine bodyPost_ret (v := .tuple #[.agg #[.int .i64 0, .int .i64 0, .int .i64 0, .int .i64 0, .string ⟨#[]⟩], .int .i64 k]) (by simp [results, Tryz.results63, go_sem, hcz, hfz, show w.heap.size < w.heap.size + 1 + 1 by omega]) rfl ⟨rfl, (by repeat' (first | (with_reducible first | exact Below.refl _ _ | refine Below.drew ?_ | refine belowDrewN ?_ _ | refine belowIter ?_ ?_ _ _ | refine Below.setCell ?_ ?_ _ | refine Below.alloc ?_ ?_ _ | refine bT hb4 ?_ ?_ | refine bT hb3 ?_ ?_ | refine bT hb2 ?_ ?_ | refine bT hb1 ?_ ?_ | refine bT hbr ?_ ?_ | refine bT hb ?_ ?_) | (simp; done) | (simp; omega) | omega))⟩
                | good t =>
                  have HXX := Lib.hid hXX
                  clear hXX
                  go_enter Tryz.func63, Tryz.ntmps63
                  go_wp2_with (go_at_call 81; refine (skip_as _ _ p HP.out ha hmx.out _).mono ?_; rintro e w' ⟨rfl, rfl⟩)
                  go_quiet ((go_at_call 82; exact Calls.quiet_of_same (double_at s p _ hp hmx.out HD.out _)))
                  go_wp2_with fail
                  refine (tok_good HXX.out (hex_in s p hp hs _)).mono ?_
                  rintro e wz ⟨rfl, hb⟩
                  obtain ⟨hcz, hfz⟩ := bcell hb
                  have hsz : w.heap.size + 2 ≤ wz.heap.size := by have := hb.size; simp at this; omega
                  go_wp2
                  refine bodyPost_ret (v := .tuple #[.agg #[.int .i64 t.kind, .int .i64 p, .int .i64 (p + t.len), .int .i64 t.n, .string ⟨t.s.toArray⟩], .int .i64 0]) (by simp [results, Tryz.results63, go_sem, hcz, hfz, show w.heap.size < w.heap.size + 1 + 1 by omega]) rfl ⟨by simp [tokR], (by repeat' (first | (with_reducible first | exact Below.refl _ _ | refine Below.drew ?_ | refine belowDrewN ?_ _ | refine belowIter ?_ ?_ _ _ | refine Below.setCell ?_ ?_ _ | refine Below.alloc ?_ ?_ _ | refine bT hb4 ?_ ?_ | refine bT hb3 ?_ ?_ | refine bT hb2 ?_ ?_ | refine bT hb1 ?_ ?_ | refine bT hbr ?_ ?_ | refine bT hb ?_ ?_) | (simp; done) | (simp; omega) | omega))⟩
              · have HD := Lib.hid hd
                have hd2 : (s.data.toList.drop (p + 1)).head? = some 60 := by rw [h60] at hd; simpa using hd
                have HX := Lib.hid (show X = .good ⟨6, 2, 0, [60, 60]⟩ by rw [← hX, h60]; simp [hd2])
                obtain ⟨hp1, hs1⟩ := dbl_lt hd2
                have HE := Lib.hid (show s.extract p (p + 2) = ⟨#[60, 60]⟩ by rw [ext2 s p hp1, h60, hs1])
                clear hX hd hd2 hs1 h60 g91 g93 g123 g125
                go_enter Tryz.func63, Tryz.ntmps63
                go_wp2_with (go_at_call 81; refine (skip_as _ _ p HP.out ha hmx.out _).mono ?_; rintro e w' ⟨rfl, rfl⟩)
                go_quiet ((go_at_call 82; exact Calls.quiet_of_same (double_at s p _ hp hmx.out HD.out _)))
                go_wp2_with fail
                refine (mark_in s p 2 (by omega) hmx.out _).mono ?_
                rintro e wz ⟨rfl, hb⟩
                obtain ⟨hcz, hfz⟩ := bcell hb
                have hsz : w.heap.size + 2 ≤ wz.heap.size := by have := hb.size; simp at this; omega
                go_wp2
                refine bodyPost_ret (v := .tuple #[.agg #[.int .i64 6, .int .i64 p, .int .i64 (p + 2), .int .i64 0, .string (s.extract p (p + 2))], .int .i64 0]) (by simp [results, Tryz.results63, go_sem, hcz, hfz, show w.heap.size < w.heap.size + 1 + 1 by omega]) rfl ⟨by rw [HX.out, HE.out]; simp [tokR], (by repeat' (first | (with_reducible first | exact Below.refl _ _ | refine Below.drew ?_ | refine belowDrewN ?_ _ | refine belowIter ?_ ?_ _ _ | refine Below.setCell ?_ ?_ _ | refine Below.alloc ?_ ?_ _ | refine bT hb4 ?_ ?_ | refine bT hb3 ?_ ?_ | refine bT hb2 ?_ ?_ | refine bT hb1 ?_ ?_ | refine bT hbr ?_ ?_ | refine bT hb ?_ ?_) | (simp; done) | (simp; omega) | omega))⟩
            · have t60 : ((s[p].toNat : Int) == 60) = false := eq_no (n := 60) (by decide) h60
              have g60 := h60
              clear h60
              by_cases h62 : s[p] = 62
              · have t62 : ((s[p].toNat : Int) == 62) = true := eq_yes (n := 62) (by decide) h62
                cases hd : ((s.data.toList.drop (p + 1)).head? == some s[p])
                · have HD := Lib.hid hd
                  have HX := Lib.hid (show X = .bad 3 by rw [h62] at hd; simp only [beq_eq_false_iff_ne, ne_eq] at hd; rw [← hX, h62]; dsimp only; rw [if_neg (by decide), if_neg (by decide), if_pos (by decide), if_neg hd])
                  clear hX hd h62 g91 g93 g123 g125 g60
                  go_enter Tryz.func63, Tryz.ntmps63
                  go_wp2_with (go_at_call 81; refine (skip_as _ _ p HP.out ha hmx.out _).mono ?_; rintro e w' ⟨rfl, rfl⟩)
                  go_quiet ((go_at_call 82; exact Calls.quiet_of_same (double_at s p _ hp hmx.out HD.out _)))
                  go_wp2_with fail
                  refine (refused_in _ _).mono ?_
                  rintro e wz ⟨rfl, hb⟩
                  obtain ⟨hcz, hfz⟩ := bcell hb
                  have hsz : w.heap.size + 2 ≤ wz.heap.size := by have := hb.size; simp at this; omega
                  go_wp2
                  refine bodyPost_ret (v := .tuple #[.agg #[.int .i64 0, .int .i64 0, .int .i64 0, .int .i64 0, .string ⟨#[]⟩], .int .i64 3]) (by simp [results, Tryz.results63, go_sem, hcz, hfz, show w.heap.size < w.heap.size + 1 + 1 by omega]) rfl ⟨by rw [HX.out]; rfl, (by repeat' (first | (with_reducible first | exact Below.refl _ _ | refine Below.drew ?_ | refine belowDrewN ?_ _ | refine belowIter ?_ ?_ _ _ | refine Below.setCell ?_ ?_ _ | refine Below.alloc ?_ ?_ _ | refine bT hb4 ?_ ?_ | refine bT hb3 ?_ ?_ | refine bT hb2 ?_ ?_ | refine bT hb1 ?_ ?_ | refine bT hbr ?_ ?_ | refine bT hb ?_ ?_) | (simp; done) | (simp; omega) | omega))⟩
                · have HD := Lib.hid hd
                  have hd2 : (s.data.toList.drop (p + 1)).head? = some 62 := by rw [h62] at hd; simpa using hd
                  have HX := Lib.hid (show X = .good ⟨6, 2, 0, [62, 62]⟩ by rw [← hX, h62]; simp [hd2])
                  obtain ⟨hp1, hs1⟩ := dbl_lt hd2
                  have HE := Lib.hid (show s.extract p (p + 2) = ⟨#[62, 62]⟩ by rw [ext2 s p hp1, h62, hs1])
                  clear hX hd hd2 hs1 h62 g91 g93 g123 g125 g60
                  go_enter Tryz.func63, Tryz.ntmps63
                  go_wp2_with (go_at_call 81; refine (skip_as _ _ p HP.out ha hmx.out _).mono ?_; rintro e w' ⟨rfl, rfl⟩)
                  go_quiet ((go_at_call 82; exact Calls.quiet_of_same (double_at s p _ hp hmx.out HD.out _)))
                  go_wp2_with fail
                  refine (mark_in s p 2 (by omega) hmx.out _).mono ?_
                  rintro e wz ⟨rfl, hb⟩
                  obtain ⟨hcz, hfz⟩ := bcell hb
                  have hsz : w.heap.size + 2 ≤ wz.heap.size := by have := hb.size; simp at this; omega
                  go_wp2
                  refine bodyPost_ret (v := .tuple #[.agg #[.int .i64 6, .int .i64 p, .int .i64 (p + 2), .int .i64 0, .string (s.extract p (p + 2))], .int .i64 0]) (by simp [results, Tryz.results63, go_sem, hcz, hfz, show w.heap.size < w.heap.size + 1 + 1 by omega]) rfl ⟨by rw [HX.out, HE.out]; simp [tokR], (by repeat' (first | (with_reducible first | exact Below.refl _ _ | refine Below.drew ?_ | refine belowDrewN ?_ _ | refine belowIter ?_ ?_ _ _ | refine Below.setCell ?_ ?_ _ | refine Below.alloc ?_ ?_ _ | refine bT hb4 ?_ ?_ | refine bT hb3 ?_ ?_ | refine bT hb2 ?_ ?_ | refine bT hb1 ?_ ?_ | refine bT hbr ?_ ?_ | refine bT hb ?_ ?_) | (simp; done) | (simp; omega) | omega))⟩
              · have t62 : ((s[p].toNat : Int) == 62) = false := eq_no (n := 62) (by decide) h62
                have g62 := h62
                clear h62
                by_cases h47 : s[p] = 47
                · have t47 : ((s[p].toNat : Int) == 47) = true := eq_yes (n := 47) (by decide) h47
                  have hXX : nameT (s.data.toList.drop (p + 1)) = X := by
                    rw [← hX, h47]; simp
                  obtain ⟨b, hd⟩ : ∃ b, ((s.data.toList.drop (p + 1)).head? == some s[p]) = b := ⟨_, rfl⟩
                  have HD := Lib.hid hd
                  clear hX hd h47 g91 g93 g123 g125 g60 g62
                  cases X with
                  | bad k =>
                    have HXX := Lib.hid hXX
                    clear hXX
                    go_enter Tryz.func63, Tryz.ntmps63
                    go_wp2_with (go_at_call 81; refine (skip_as _ _ p HP.out ha hmx.out _).mono ?_; rintro e w' ⟨rfl, rfl⟩)
                    go_quiet ((go_at_call 82; exact Calls.quiet_of_same (double_at s p _ hp hmx.out HD.out _)))
                    go_wp2_with fail
                    refine (tok_bad HXX.out (name_in s p hp hs _)).mono ?_
                    rintro e wz ⟨rfl, hb⟩
                    obtain ⟨hcz, hfz⟩ := bcell hb
                    have hsz : w.heap.size + 2 ≤ wz.heap.size := by have := hb.size; simp at this; omega
                    go_wp2
                    refine bodyPost_ret (v := .tuple #[.agg #[.int .i64 0, .int .i64 0, .int .i64 0, .int .i64 0, .string ⟨#[]⟩], .int .i64 k]) (by simp [results, Tryz.results63, go_sem, hcz, hfz, show w.heap.size < w.heap.size + 1 + 1 by omega]) rfl ⟨rfl, (by repeat' (first | (with_reducible first | exact Below.refl _ _ | refine Below.drew ?_ | refine belowDrewN ?_ _ | refine belowIter ?_ ?_ _ _ | refine Below.setCell ?_ ?_ _ | refine Below.alloc ?_ ?_ _ | refine bT hb4 ?_ ?_ | refine bT hb3 ?_ ?_ | refine bT hb2 ?_ ?_ | refine bT hb1 ?_ ?_ | refine bT hbr ?_ ?_ | refine bT hb ?_ ?_) | (simp; done) | (simp; omega) | omega))⟩
                  | good t =>
                    have HXX := Lib.hid hXX
                    clear hXX
                    go_enter Tryz.func63, Tryz.ntmps63
                    go_wp2_with (go_at_call 81; refine (skip_as _ _ p HP.out ha hmx.out _).mono ?_; rintro e w' ⟨rfl, rfl⟩)
                    go_quiet ((go_at_call 82; exact Calls.quiet_of_same (double_at s p _ hp hmx.out HD.out _)))
                    go_wp2_with fail
                    refine (tok_good HXX.out (name_in s p hp hs _)).mono ?_
                    rintro e wz ⟨rfl, hb⟩
                    obtain ⟨hcz, hfz⟩ := bcell hb
                    have hsz : w.heap.size + 2 ≤ wz.heap.size := by have := hb.size; simp at this; omega
                    go_wp2
                    refine bodyPost_ret (v := .tuple #[.agg #[.int .i64 t.kind, .int .i64 p, .int .i64 (p + t.len), .int .i64 t.n, .string ⟨t.s.toArray⟩], .int .i64 0]) (by simp [results, Tryz.results63, go_sem, hcz, hfz, show w.heap.size < w.heap.size + 1 + 1 by omega]) rfl ⟨by simp [tokR], (by repeat' (first | (with_reducible first | exact Below.refl _ _ | refine Below.drew ?_ | refine belowDrewN ?_ _ | refine belowIter ?_ ?_ _ _ | refine Below.setCell ?_ ?_ _ | refine Below.alloc ?_ ?_ _ | refine bT hb4 ?_ ?_ | refine bT hb3 ?_ ?_ | refine bT hb2 ?_ ?_ | refine bT hb1 ?_ ?_ | refine bT hbr ?_ ?_ | refine bT hb ?_ ?_) | (simp; done) | (simp; omega) | omega))⟩
                · have t47 : ((s[p].toNat : Int) == 47) = false := eq_no (n := 47) (by decide) h47
                  have g47 := h47
                  clear h47
                  by_cases h40 : s[p] = 40
                  · have t40 : ((s[p].toNat : Int) == 40) = true := eq_yes (n := 40) (by decide) h40
                    have hXX : textT (s.data.toList.drop (p + 1)) = X := by
                      rw [← hX, h40]; simp
                    obtain ⟨b, hd⟩ : ∃ b, ((s.data.toList.drop (p + 1)).head? == some s[p]) = b := ⟨_, rfl⟩
                    have HD := Lib.hid hd
                    clear hX hd h40 g91 g93 g123 g125 g60 g62 g47
                    cases X with
                    | bad k =>
                      have HXX := Lib.hid hXX
                      clear hXX
                      go_enter Tryz.func63, Tryz.ntmps63
                      go_wp2_with (go_at_call 81; refine (skip_as _ _ p HP.out ha hmx.out _).mono ?_; rintro e w' ⟨rfl, rfl⟩)
                      go_quiet ((go_at_call 82; exact Calls.quiet_of_same (double_at s p _ hp hmx.out HD.out _)))
                      go_wp2_with fail
                      refine (tok_bad HXX.out (text_in s p hp hs _)).mono ?_
                      rintro e wz ⟨rfl, hb⟩
                      obtain ⟨hcz, hfz⟩ := bcell hb
                      have hsz : w.heap.size + 2 ≤ wz.heap.size := by have := hb.size; simp at this; omega
                      go_wp2
                      refine bodyPost_ret (v := .tuple #[.agg #[.int .i64 0, .int .i64 0, .int .i64 0, .int .i64 0, .string ⟨#[]⟩], .int .i64 k]) (by simp [results, Tryz.results63, go_sem, hcz, hfz, show w.heap.size < w.heap.size + 1 + 1 by omega]) rfl ⟨rfl, (by repeat' (first | (with_reducible first | exact Below.refl _ _ | refine Below.drew ?_ | refine belowDrewN ?_ _ | refine belowIter ?_ ?_ _ _ | refine Below.setCell ?_ ?_ _ | refine Below.alloc ?_ ?_ _ | refine bT hb4 ?_ ?_ | refine bT hb3 ?_ ?_ | refine bT hb2 ?_ ?_ | refine bT hb1 ?_ ?_ | refine bT hbr ?_ ?_ | refine bT hb ?_ ?_) | (simp; done) | (simp; omega) | omega))⟩
                    | good t =>
                      have HXX := Lib.hid hXX
                      clear hXX
                      go_enter Tryz.func63, Tryz.ntmps63
                      go_wp2_with (go_at_call 81; refine (skip_as _ _ p HP.out ha hmx.out _).mono ?_; rintro e w' ⟨rfl, rfl⟩)
                      go_quiet ((go_at_call 82; exact Calls.quiet_of_same (double_at s p _ hp hmx.out HD.out _)))
                      go_wp2_with fail
                      refine (tok_good HXX.out (text_in s p hp hs _)).mono ?_
                      rintro e wz ⟨rfl, hb⟩
                      obtain ⟨hcz, hfz⟩ := bcell hb
                      have hsz : w.heap.size + 2 ≤ wz.heap.size := by have := hb.size; simp at this; omega
                      go_wp2
                      refine bodyPost_ret (v := .tuple #[.agg #[.int .i64 t.kind, .int .i64 p, .int .i64 (p + t.len), .int .i64 t.n, .string ⟨t.s.toArray⟩], .int .i64 0]) (by simp [results, Tryz.results63, go_sem, hcz, hfz, show w.heap.size < w.heap.size + 1 + 1 by omega]) rfl ⟨by simp [tokR], (by repeat' (first | (with_reducible first | exact Below.refl _ _ | refine Below.drew ?_ | refine belowDrewN ?_ _ | refine belowIter ?_ ?_ _ _ | refine Below.setCell ?_ ?_ _ | refine Below.alloc ?_ ?_ _ | refine bT hb4 ?_ ?_ | refine bT hb3 ?_ ?_ | refine bT hb2 ?_ ?_ | refine bT hb1 ?_ ?_ | refine bT hbr ?_ ?_ | refine bT hb ?_ ?_) | (simp; done) | (simp; omega) | omega))⟩
                  · have t40 : ((s[p].toNat : Int) == 40) = false := eq_no (n := 40) (by decide) h40
                    have g40 := h40
                    clear h40
                    by_cases h41 : s[p] = 41
                    · have t41 : ((s[p].toNat : Int) == 41) = true := eq_yes (n := 41) (by decide) h41
                      have HX := Lib.hid (show X = .bad 3 by rw [← hX, h41]; rfl)
                      obtain ⟨b, hd⟩ : ∃ b, ((s.data.toList.drop (p + 1)).head? == some s[p]) = b := ⟨_, rfl⟩
                      have HD := Lib.hid hd
                      clear hX hd h41 g91 g93 g123 g125 g60 g62 g47 g40
                      go_enter Tryz.func63, Tryz.ntmps63
                      go_wp2_with (go_at_call 81; refine (skip_as _ _ p HP.out ha hmx.out _).mono ?_; rintro e w' ⟨rfl, rfl⟩)
                      go_quiet ((go_at_call 82; exact Calls.quiet_of_same (double_at s p _ hp hmx.out HD.out _)))
                      go_wp2_with fail
                      refine (refused_in _ _).mono ?_
                      rintro e wz ⟨rfl, hb⟩
                      obtain ⟨hcz, hfz⟩ := bcell hb
                      have hsz : w.heap.size + 2 ≤ wz.heap.size := by have := hb.size; simp at this; omega
                      go_wp2
                      refine bodyPost_ret (v := .tuple #[.agg #[.int .i64 0, .int .i64 0, .int .i64 0, .int .i64 0, .string ⟨#[]⟩], .int .i64 3]) (by simp [results, Tryz.results63, go_sem, hcz, hfz, show w.heap.size < w.heap.size + 1 + 1 by omega]) rfl ⟨by rw [HX.out]; rfl, (by repeat' (first | (with_reducible first | exact Below.refl _ _ | refine Below.drew ?_ | refine belowDrewN ?_ _ | refine belowIter ?_ ?_ _ _ | refine Below.setCell ?_ ?_ _ | refine Below.alloc ?_ ?_ _ | refine bT hb4 ?_ ?_ | refine bT hb3 ?_ ?_ | refine bT hb2 ?_ ?_ | refine bT hb1 ?_ ?_ | refine bT hbr ?_ ?_ | refine bT hb ?_ ?_) | (simp; done) | (simp; omega) | omega))⟩
                    · have t41 : ((s[p].toNat : Int) == 41) = false := eq_no (n := 41) (by decide) h41
                      have g41 := h41
                      clear h41
                      have hXX : wordT ((s.data.toList.drop p).take (regN (s.data.toList.drop p))) = X := by
                        rw [← hX, drop_get s p hp]; simp [g91, g93, g123, g125, g60, g62, g47, g40, g41]
                      obtain ⟨b, hd⟩ : ∃ b, ((s.data.toList.drop (p + 1)).head? == some s[p]) = b := ⟨_, rfl⟩
                      have HD := Lib.hid hd
                      clear hX hd g91 g93 g123 g125 g60 g62 g47 g40 g41
                      cases X with
                      | bad k =>
                        have HXX := Lib.hid hXX
                        clear hXX
                        go_enter Tryz.func63, Tryz.ntmps63
                        go_wp2_with (go_at_call 81; refine (skip_as _ _ p HP.out ha hmx.out _).mono ?_; rintro e w' ⟨rfl, rfl⟩)
                        go_quiet ((go_at_call 82; exact Calls.quiet_of_same (double_at s p _ hp hmx.out HD.out _)))
                        go_wp2_with fail
                        refine (tok_bad HXX.out (word_in s p hp hs m _ (hm2.below (belowDrewN (Below.refl _ _) _)))).mono ?_
                        rintro e wz ⟨rfl, hb⟩
                        obtain ⟨hcz, hfz⟩ := bcell hb
                        have hsz : w.heap.size + 2 ≤ wz.heap.size := by have := hb.size; simp at this; omega
                        go_wp2
                        refine bodyPost_ret (v := .tuple #[.agg #[.int .i64 0, .int .i64 0, .int .i64 0, .int .i64 0, .string ⟨#[]⟩], .int .i64 k]) (by simp [results, Tryz.results63, go_sem, hcz, hfz, show w.heap.size < w.heap.size + 1 + 1 by omega]) rfl ⟨rfl, (by repeat' (first | (with_reducible first | exact Below.refl _ _ | refine Below.drew ?_ | refine belowDrewN ?_ _ | refine belowIter ?_ ?_ _ _ | refine Below.setCell ?_ ?_ _ | refine Below.alloc ?_ ?_ _ | refine bT hb4 ?_ ?_ | refine bT hb3 ?_ ?_ | refine bT hb2 ?_ ?_ | refine bT hb1 ?_ ?_ | refine bT hbr ?_ ?_ | refine bT hb ?_ ?_) | (simp; done) | (simp; omega) | omega))⟩
                      | good t =>
                        have HXX := Lib.hid hXX
                        clear hXX
                        go_enter Tryz.func63, Tryz.ntmps63
                        go_wp2_with (go_at_call 81; refine (skip_as _ _ p HP.out ha hmx.out _).mono ?_; rintro e w' ⟨rfl, rfl⟩)
                        go_quiet ((go_at_call 82; exact Calls.quiet_of_same (double_at s p _ hp hmx.out HD.out _)))
                        go_wp2_with fail
                        refine (tok_good HXX.out (word_in s p hp hs m _ (hm2.below (belowDrewN (Below.refl _ _) _)))).mono ?_
                        rintro e wz ⟨rfl, hb⟩
                        obtain ⟨hcz, hfz⟩ := bcell hb
                        have hsz : w.heap.size + 2 ≤ wz.heap.size := by have := hb.size; simp at this; omega
                        go_wp2
                        refine bodyPost_ret (v := .tuple #[.agg #[.int .i64 t.kind, .int .i64 p, .int .i64 (p + t.len), .int .i64 t.n, .string ⟨t.s.toArray⟩], .int .i64 0]) (by simp [results, Tryz.results63, go_sem, hcz, hfz, show w.heap.size < w.heap.size + 1 + 1 by omega]) rfl ⟨by simp [tokR], (by repeat' (first | (with_reducible first | exact Below.refl _ _ | refine Below.drew ?_ | refine belowDrewN ?_ _ | refine belowIter ?_ ?_ _ _ | refine Below.setCell ?_ ?_ _ | refine Below.alloc ?_ ?_ _ | refine bT hb4 ?_ ?_ | refine bT hb3 ?_ ?_ | refine bT hb2 ?_ ?_ | refine bT hb1 ?_ ?_ | refine bT hbr ?_ ?_ | refine bT hb ?_ ?_) | (simp; done) | (simp; omega) | omega))⟩
  · have hp2 : p = s.size := by omega
    rw [if_pos (List.drop_eq_nil_of_le (by have : s.data.toList.length = s.size := rfl; omega))]
    subst hp2
    go_enter Tryz.func63, Tryz.ntmps63
    go_wp2_with (go_at_call 81; refine (skip_as _ _ _ HP.out ha hmx.out _).mono ?_; rintro e w' ⟨rfl, rfl⟩)
    refine bodyPost_ret (v := .tuple #[.agg #[.int .i64 0, .int .i64 s.size, .int .i64 s.size, .int .i64 0, .string ⟨#[]⟩], .int .i64 0]) (by simp [results, Tryz.results63, go_sem]) rfl ⟨by simp [tokR], (by repeat' (first | (with_reducible first | exact Below.refl _ _ | refine Below.drew ?_ | refine belowDrewN ?_ _ | refine belowIter ?_ ?_ _ _ | refine Below.setCell ?_ ?_ _ | refine Below.alloc ?_ ?_ _ | refine bT hb4 ?_ ?_ | refine bT hb3 ?_ ?_ | refine bT hb2 ?_ ?_ | refine bT hb1 ?_ ?_ | refine bT hbr ?_ ?_ | refine bT hb ?_ ?_) | (simp; done) | (simp; omega) | omega))⟩
end Go.Proofs.YtibffdaljmmdoaaGreatDoor
