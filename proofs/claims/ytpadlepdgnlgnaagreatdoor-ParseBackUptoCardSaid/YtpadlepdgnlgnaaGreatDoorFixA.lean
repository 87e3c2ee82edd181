/- Package fix: its small functions. -/
import Derived.Test.YtpadlepdgnlgnaaGreatDoorFace
set_option linter.all false
namespace Go.Proofs.YtpadlepdgnlgnaaGreatDoor
open Go.RowKit Fo

/-- The library's variable bytealg.MaxLen is a number: what strings.Index and Cut read. -/
def MaxW (w : World) (m : Int) : Prop := w.cell? ⟨0, 0, none⟩ = some (.int .i64 m)
theorem MaxW.lt {w : World} {m : Int} (h : MaxW w m) : 0 < w.heap.size := by
  unfold MaxW World.cell? at h
  rcases Nat.eq_zero_or_pos w.heap.size with h0 | h0
  · rw [Array.getElem?_eq_none (by simp [h0])] at h; simp at h
  · exact h0
theorem MaxW.below {w w' : World} {m : Int} (h : MaxW w m) (hb : Below w.heap.size w w') : MaxW w' m := by
  unfold MaxW at *; rw [hb.cell (p := ⟨0, 0, none⟩) (MaxW.lt h)]; exact h
theorem MaxW.belowB {B : Nat} {w w' : World} {m : Int} (h : MaxW w m) (hb : Below B w w') (hB : 0 < B) : MaxW w' m := by
  unfold MaxW at *; rw [hb.cell (p := ⟨0, 0, none⟩) hB]; exact h

theorem digits_in (d : L) (hd : d.length ≤ 140737488355327) (b : Bool) (hb : allDig d = b) (w : World) :
    Calls Tryz.prog 112 #[.string ⟨d.toArray⟩] w fun e w' => e = .returned (.bool b) ∧ Below w.heap.size w w' := by
  obtain ⟨t, ht⟩ : ∃ t, Lib.trimS d digs = t := ⟨_, rfl⟩
  have htb : Hid (t.isEmpty = b) := by
    show _ = _
    rw [← hb, Bool.eq_iff_iff, List.isEmpty_iff, ← ht, trimS_nil_iff]
    simp only [digs_isDig, allDig]
  have HT := Lib.hid ht
  clear ht hb
  go_enter Tryz.func112, Tryz.ntmps112
  go_wp2_with (go_at_call 108; refine (trim_as d hd t HT.out _).mono ?_; rintro e w2 ⟨rfl, hb2⟩)
  go_ret
  exact ⟨ret_bool (by rw [← htb.out]), (by repeat' (first | (with_reducible exact Below.refl _ _) | (with_reducible refine Below.drew ?_) | (with_reducible refine belowDrewN ?_ _) | (with_reducible refine belowIter ?_ ?_ _ _) | (with_reducible refine Below.setCell ?_ ?_ _) | (with_reducible refine Below.alloc ?_ ?_ _) | (with_reducible refine Below.trans ?_ (Below.mono hb4 ?_)) | (with_reducible refine Below.trans ?_ (Below.mono hb3 ?_)) | (with_reducible refine Below.trans ?_ (Below.mono hb2 ?_)) | (with_reducible refine Below.trans ?_ (Below.mono hb1 ?_)) | (with_reducible refine Below.trans ?_ (Below.mono hbr ?_)) | (with_reducible refine Below.trans ?_ (Below.mono hb ?_)) | (simp; done) | (simp; omega) | omega))⟩

theorem within_in (n : Int) (h0 : -9223372036854775808 ≤ n) (h1 : n ≤ 9223372036854775807) (b : Bool) (hb : (decide (-1073741824 ≤ n) && decide (n ≤ 1073741824)) = b) (w : World) :
    Calls Tryz.prog 138 #[.int .i64 n] w fun e w' => e = .returned (.bool b) ∧ w' = w := by
  have HB := Lib.hid hb
  clear hb
  go_enter Tryz.func138, Tryz.ntmps138
  go_wp2
  all_goals go_ret
  all_goals exact ⟨ret_bool (by rw [← HB.out]; first | (simp_all; done) | (simp; omega)), rfl⟩
set_option maxHeartbeats 400000 in
theorem bounded_good (b : Nat) (n : Int) (w : World) (hc : w.cell? ⟨b, 0, none⟩ = some (.int .i64 n)) (h0 : -1073741824 ≤ n) (h1 : n ≤ 1073741824) :
    Calls Tryz.prog 114 #[.slice (some ⟨b, 0, none⟩) 1 1] w fun e w' => e = .returned (.tuple #[]) ∧ w' = w := by
  go_enter Tryz.func114, Tryz.ntmps114
  go_wp2
  refine wp_loop_rounds 2 ?_
  rw [rounds_succ]
  go_wp2_with (go_at_call 138; refine (within_in n (by omega) (by omega) true (by simp; omega) _).mono ?_; rintro e w2 ⟨rfl, rfl⟩)
  rw [rounds_succ]
  go_wp2
  go_end0
  exact ⟨rfl, rfl⟩
set_option maxHeartbeats 400000 in
theorem bounded_bad (b : Nat) (n : Int) (w : World) (hc : w.cell? ⟨b, 0, none⟩ = some (.int .i64 n)) (h0 : -9223372036854775808 ≤ n) (h1 : n ≤ 9223372036854775807) (h : n < -1073741824 ∨ 1073741824 < n) :
    Calls Tryz.prog 114 #[.slice (some ⟨b, 0, none⟩) 1 1] w fun e w' => e = .panicked [{ v := .iface 142 (.int .i64 2), recovered := false }] ∧ w' = w := by
  have hb : Hid ((decide (-1073741824 ≤ n) && decide (n ≤ 1073741824)) = false) := by show _ = _; simp; omega
  clear h
  go_enter Tryz.func114, Tryz.ntmps114
  go_wp2
  refine wp_loop_rounds 1 ?_
  rw [rounds_succ]
  go_wp2_with (go_at_call 138; refine (within_in n (by omega) (by omega) false hb.out _).mono ?_; rintro e w2 ⟨rfl, rfl⟩)
  exact ⟨rfl, rfl, rfl⟩
end Go.Proofs.YtpadlepdgnlgnaaGreatDoor
