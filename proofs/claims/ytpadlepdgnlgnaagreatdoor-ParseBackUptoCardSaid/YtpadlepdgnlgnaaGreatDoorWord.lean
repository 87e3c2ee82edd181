/- The walks of lex's classes of runs and of its integers. -/
import Derived.Test.YtpadlepdgnlgnaaGreatDoorText
import Derived.Lib.IndexAny
set_option linter.all false
namespace Go.Proofs.YtpadlepdgnlgnaaGreatDoor
open Go.RowKit Fo

abbrev digs : L := [48, 49, 50, 51, 52, 53, 54, 55, 56, 57]
theorem digs_isDig (c : UInt8) : digs.contains c = isDig c := by
  simpa using u8_all (fun c => digs.contains c == isDig c) (by decide +kernel) c
theorem sgn_sign (c : UInt8) : ([43, 45] : L).contains c = sign c := by
  simpa using u8_all (fun c => ([43, 45] : L).contains c == sign c) (by decide +kernel) c
theorem dropWhile_nil_iff (p : UInt8 → Bool) (l : L) : l.dropWhile p = [] ↔ l.all p = true := by
  induction l with
  | nil => simp
  | cons c l ih => by_cases h : p c <;> simp [List.dropWhile_cons, h, ih]
theorem trimS_nil_iff (l cs : L) : Lib.trimS l cs = [] ↔ l.all (cs.contains ·) = true := by
  unfold Lib.trimS Lib.trimRightS Lib.trimLeftS
  rw [dropWhile_nil_iff, List.all_reverse]
  constructor
  · intro h
    rw [← List.all_reverse]
    have h2 := List.takeWhile_append_dropWhile (p := fun x => cs.contains x) (l := l.reverse)
    rw [← h2, List.all_append, h, Bool.and_true]
    exact List.all_takeWhile
  · intro h
    rw [← List.all_reverse] at h
    rw [(dropWhile_nil_iff _ _).2 h]; rfl
theorem isInt_eq (l : L) : isInt l = (decide ((l.length : Int) - (l.dropWhile sign).length ≤ 1) && !(l.dropWhile sign).isEmpty && (l.dropWhile sign).all isDig) := by
  have hsd : ∀ c, sign c = true → isDig c = false := fun c h => by
    have := u8_all (fun c => !sign c || !isDig c) (by decide +kernel) c
    simp [h] at this; exact this
  cases l with
  | nil => simp [isInt, unsigned]
  | cons c l =>
    by_cases h : sign c
    · simp only [isInt, unsigned, h, if_true, List.dropWhile_cons, allDig]
      have hle := (List.dropWhile_sublist sign (l := l)).length_le
      by_cases h2 : (l.dropWhile sign).length = l.length
      · have : l.dropWhile sign = l := by
          have := List.dropWhile_suffix sign (l := l)
          exact this.eq_of_length h2
        rw [this]; simp [show (l.length : Int) + 1 - l.length ≤ 1 by omega]
      · cases l with
        | nil => simp at h2
        | cons d l =>
          by_cases hd : sign d
          · have h3 := hsd d hd
            have hle2 := (List.dropWhile_sublist sign (l := l)).length_le
            simp [h3, hd, List.dropWhile_cons]; omega
          · simp [List.dropWhile_cons, hd] at h2
    · simp [isInt, unsigned, h, List.dropWhile_cons, allDig]
def clsOf (l : L) : Int := if isInt l then 1 else if l.contains 46 then 2 else 0

theorem trimL_as (s : ByteArray) (d : L) (h : s.data.toList.dropWhile sign = d) (w : World) :
    Calls Tryz.prog 107 #[.string s, .string ⟨#[43, 45]⟩] w fun e w' => e = .returned (.string ⟨d.toArray⟩) ∧ Below w.heap.size w w' := by
  have := Tryz.strings_TrimLeft_cut s ⟨#[43, 45]⟩ w (by decide) (ascii_of_all (by decide))
  rw [show Lib.trimLeftS s.data.toList (ByteArray.mk #[43, 45]).data.toList = d by
    rw [← h]; unfold Lib.trimLeftS; congr 1; funext c; exact sgn_sign c] at this
  exact this
theorem trim_as (d : L) (hd : d.length ≤ 140737488355327) (t : L) (h : Lib.trimS d digs = t) (w : World) :
    Calls Tryz.prog 108 #[.string ⟨d.toArray⟩, .string ⟨#[48, 49, 50, 51, 52, 53, 54, 55, 56, 57]⟩] w fun e w' => e = .returned (.string ⟨t.toArray⟩) ∧ Below w.heap.size w w' := by
  have := Tryz.strings_Trim_cut ⟨d.toArray⟩ ⟨#[48, 49, 50, 51, 52, 53, 54, 55, 56, 57]⟩ w (by simp [ByteArray.size]; omega) (by decide) (ascii_of_all (by decide))
  rw [show Lib.trimS (ByteArray.mk d.toArray).data.toList (ByteArray.mk #[48, 49, 50, 51, 52, 53, 54, 55, 56, 57]).data.toList = t from h] at this
  exact this
theorem ix_mem (l : L) (c : UInt8) : 0 ≤ Lib.indexByte l c ↔ l.contains c = true := by
  rw [Lib.contains_iff_indexByte]; simp
theorem contains_as (s : ByteArray) (b : Bool) (h : s.data.toList.contains 46 = b) (w : World) :
    Calls Tryz.prog 109 #[.string s, .string ⟨#[46]⟩] w fun e w' => e = .returned (.bool b) ∧ w' = w := by
  have := Tryz.strings_Contains_one s 46 w
  rw [show decide (0 ≤ Lib.indexByte s.data.toList 46) = b from ?_] at this
  · exact this
  · rw [← h, Bool.eq_iff_iff]
    simp only [decide_eq_true_eq]
    exact ix_mem _ _

set_option maxHeartbeats 1000000 in
theorem class_in (s : ByteArray) (hs : s.size ≤ 140737488355327) (w : World) :
    Calls Tryz.prog 87 #[.string s] w fun e w' => e = .returned (.int .i64 (clsOf s.data.toList)) ∧ Below w.heap.size w w' := by
  obtain ⟨d, hd⟩ : ∃ d, s.data.toList.dropWhile sign = d := ⟨_, rfl⟩
  obtain ⟨t, ht⟩ : ∃ t, Lib.trimS d digs = t := ⟨_, rfl⟩
  obtain ⟨b, hb⟩ : ∃ b, s.data.toList.contains 46 = b := ⟨_, rfl⟩
  have hdl : d.length ≤ s.size := by
    rw [← hd]; exact (List.dropWhile_sublist sign (l := s.data.toList)).length_le
  have hc : clsOf s.data.toList = if (decide ((s.size : Int) - d.length ≤ 1) && !d.isEmpty && t.isEmpty) then 1 else if b then 2 else 0 := by
    unfold clsOf
    rw [isInt_eq, hd, hb, ← ht]
    have : (Lib.trimS d digs).isEmpty = d.all isDig := by
      rw [Bool.eq_iff_iff, List.isEmpty_iff, trimS_nil_iff]
      simp only [digs_isDig]
    rw [this]; rfl
  obtain ⟨R, hR⟩ : ∃ R, clsOf s.data.toList = R := ⟨_, rfl⟩
  rw [hR]; rw [hR] at hc
  have HR := Lib.hid hc
  clear hR
  have HD := Lib.hid hd
  have HT := Lib.hid ht
  have HB := Lib.hid hb
  clear hd ht hb hc
  go_enter Tryz.func87, Tryz.ntmps87
  go_wp2_with (first | (go_at_call 107; refine (trimL_as _ d HD.out _).mono ?_; rintro e w1 ⟨rfl, hb1⟩; have hz1 := hb1.size) | (go_at_call 108; refine (trim_as d (by omega) t HT.out _).mono ?_; rintro e w2 ⟨rfl, hb2⟩) | (go_at_call 109; refine (contains_as _ b HB.out _).mono ?_; rintro e w3 ⟨rfl, rfl⟩))
  all_goals go_ret
  all_goals exact ⟨ret_int (by rw [HR.out]; cases hd0 : d.isEmpty <;> cases ht0 : t.isEmpty <;> simp_all), (by repeat' (first | (with_reducible exact Below.refl _ _) | (with_reducible refine Below.drew ?_) | (with_reducible refine belowDrewN ?_ _) | (with_reducible refine belowIter ?_ ?_ _ _) | (with_reducible refine Below.setCell ?_ ?_ _) | (with_reducible refine Below.alloc ?_ ?_ _) | (with_reducible refine Below.trans ?_ (Below.mono hb4 ?_)) | (with_reducible refine Below.trans ?_ (Below.mono hb3 ?_)) | (with_reducible refine Below.trans ?_ (Below.mono hb2 ?_)) | (with_reducible refine Below.trans ?_ (Below.mono hb1 ?_)) | (with_reducible refine Below.trans ?_ (Below.mono hbr ?_)) | (with_reducible refine Below.trans ?_ (Below.mono hb ?_)) | (simp; done) | (simp; omega) | omega))⟩
end Go.Proofs.YtpadlepdgnlgnaaGreatDoor
