/- The walks of package lex, the first half: runs, marks, names. -/
import Derived.Test.YtpadlepdgnlgnaaGreatDoorLib
import Derived.Deep.QuietTactic
import Derived.BigQuiet
set_option linter.all false
namespace Go.Proofs.YtpadlepdgnlgnaaGreatDoor
open Go.RowKit Fo

theorem regular_as (c : UInt8) (b : Bool) (h : regular c = b) (w : World) :
    Calls Tryz.prog 104 #[.int .u8 c.toNat] w fun e w' => e = .returned (.bool b) ∧ w' = w := h ▸ regular_any c w

theorem regN_le (l : L) : regN l ≤ l.length := by
  induction l with
  | nil => simp [regN]
  | cons c l ih => simp only [regN, List.length_cons]; split <;> omega

def cutV (s : ByteArray) (a : Nat) : Value := .agg #[.string s, .int .i64 a]

set_option maxHeartbeats 400000 in
theorem run_in (s : ByteArray) (c a : Nat) (ha : a ≤ s.size) (hs : s.size ≤ maxLen) (w : World) :
    Calls Tryz.prog 80 #[.agg #[.string s, .int .i64 c], .int .i64 a] w fun e w' => e = .returned (.int .i64 (a + regN (s.data.toList.drop a) : Nat)) ∧ Below w.heap.size w w' := by
  unfold maxLen at hs
  obtain ⟨T, hT⟩ : ∃ T, a + regN (s.data.toList.drop a) = T := ⟨_, rfl⟩
  rw [hT]
  have HT := Lib.hid hT; clear hT
  go_enter Tryz.func80, Tryz.ntmps80
  go_wp2
  go_loop [1] (fun p => ∃ (k : Nat), k ≤ s.size ∧ p = .int .i64 k ∧ Hid (k + regN (s.data.toList.drop k) = T)) (fun p => s.size - (intOf p).toNat)
  case atStart => exact ⟨a, ha, rfl, HT⟩
  case round =>
    obtain ⟨k, hk, rfl, H⟩ := hrel
    clear HT
    by_cases hlt : k < s.size
    · have H1 := H.out
      rw [drop_get s k hlt] at H1
      have H2 := Lib.hid H1; clear H1 H
      cases hr : regular s[k]
      · have HR := Lib.hid hr; clear hr
        go_wp2_with (go_at_call 104; refine (regular_as _ _ HR.out _).mono ?_; rintro e w' ⟨rfl, rfl⟩)
        go_ret
        exact ⟨ret_int (by have := H2.out; simp [regN, HR.out] at this; omega), (Below.refl _ _).alloc (Nat.le_refl _) _⟩
      · have HR := Lib.hid hr; clear hr
        go_wp2_with (go_at_call 104; refine (regular_as _ _ HR.out _).mono ?_; rintro e w' ⟨rfl, rfl⟩)
        go_round
        case rel => exact ⟨k + 1, by omega, by go_num, by have := H2.out; simp [regN, HR.out] at this; show _ = _; omega⟩
        case measure => simp [intOf]; omega
    · have hk2 : k = s.size := by omega
      subst hk2
      have H1 := Lib.hid (show s.size = T by have := H.out; rw [List.drop_eq_nil_of_le (by simp)] at this; simpa [regN] using this)
      clear H
      go_wp2
      go_ret
      exact ⟨ret_int (by rw [H1.out]), (Below.refl _ _).alloc (Nat.le_refl _) _⟩

def tokV (k : Int) (a b : Nat) (n : Int) (s : L) : Value := .agg #[.int .i64 k, .int .i64 a, .int .i64 b, .int .i64 n, .string ⟨s.toArray⟩]

set_option maxHeartbeats 400000 in
theorem mark_in (s : ByteArray) (a n : Nat) (ha : a + n ≤ s.size) (hs : s.size ≤ maxLen) (w : World) :
    Calls Tryz.prog 49 #[.agg #[.string s, .int .i64 a], .int .i64 n] w fun e w' => e = .returned (.tuple #[.agg #[.int .i64 6, .int .i64 a, .int .i64 (a + n : Nat), .int .i64 0, .string (s.extract a (a + n))], .int .i64 0]) ∧ Below w.heap.size w w' := by
  unfold maxLen at hs
  go_enter Tryz.func49, Tryz.ntmps49
  go_wp2
  go_region
  go_wp2
  refine bodyPost_ret (v := .tuple #[.agg #[.int .i64 6, .int .i64 a, .int .i64 (a + n), .int .i64 0, .string (s.extract a (a + n))], .int .i64 0]) (by simp [results, Tryz.results49, go_sem]) rfl ⟨by simp, (by repeat' (first | (with_reducible exact Below.refl _ _) | (with_reducible refine Below.drew ?_) | (with_reducible refine belowDrewN ?_ _) | (with_reducible refine belowIter ?_ ?_ _ _) | (with_reducible refine Below.setCell ?_ ?_ _) | (with_reducible refine Below.alloc ?_ ?_ _) | (with_reducible refine Below.trans ?_ (Below.mono hb4 ?_)) | (with_reducible refine Below.trans ?_ (Below.mono hb3 ?_)) | (with_reducible refine Below.trans ?_ (Below.mono hb2 ?_)) | (with_reducible refine Below.trans ?_ (Below.mono hb1 ?_)) | (with_reducible refine Below.trans ?_ (Below.mono hbr ?_)) | (with_reducible refine Below.trans ?_ (Below.mono hb ?_)) | (simp; done) | (simp; omega) | omega))⟩

set_option maxHeartbeats 400000 in
theorem told_in (s : ByteArray) (a : Nat) (k to : Int) (t : ByteArray) (most : Nat) (ht : t.size ≤ maxLen) (w : World) (h : t.size ≤ most) :
    Calls Tryz.prog 78 #[.agg #[.string s, .int .i64 a], .int .i64 k, .int .i64 to, .string t, .int .i64 most] w fun e w' => e = .returned (.tuple #[.agg #[.int .i64 k, .int .i64 a, .int .i64 to, .int .i64 0, .string t], .int .i64 0]) ∧ Below w.heap.size w w' := by
  unfold maxLen at ht
  go_enter Tryz.func78, Tryz.ntmps78
  go_wp2
  refine bodyPost_ret (v := .tuple #[.agg #[.int .i64 k, .int .i64 a, .int .i64 to, .int .i64 0, .string t], .int .i64 0]) (by simp [results, Tryz.results78, go_sem]) rfl ⟨rfl, (by repeat' (first | (with_reducible exact Below.refl _ _) | (with_reducible refine Below.drew ?_) | (with_reducible refine belowDrewN ?_ _) | (with_reducible refine belowIter ?_ ?_ _ _) | (with_reducible refine Below.setCell ?_ ?_ _) | (with_reducible refine Below.alloc ?_ ?_ _) | (with_reducible refine Below.trans ?_ (Below.mono hb4 ?_)) | (with_reducible refine Below.trans ?_ (Below.mono hb3 ?_)) | (with_reducible refine Below.trans ?_ (Below.mono hb2 ?_)) | (with_reducible refine Below.trans ?_ (Below.mono hb1 ?_)) | (with_reducible refine Below.trans ?_ (Below.mono hbr ?_)) | (with_reducible refine Below.trans ?_ (Below.mono hb ?_)) | (simp; done) | (simp; omega) | omega))⟩

theorem refused_in (e : Int) (w : World) :
    Calls Tryz.prog 47 #[.int .i64 e] w fun x w' => x = .returned (.tuple #[.agg #[.int .i64 0, .int .i64 0, .int .i64 0, .int .i64 0, .string ⟨#[]⟩], .int .i64 e]) ∧ Below w.heap.size w w' := by
  go_enter Tryz.func47, Tryz.ntmps47
  go_wp2
  refine bodyPost_ret (v := .tuple #[.agg #[.int .i64 0, .int .i64 0, .int .i64 0, .int .i64 0, .string ⟨#[]⟩], .int .i64 e]) (by simp [results, Tryz.results47, go_sem]) rfl ⟨rfl, (by repeat' (first | (with_reducible exact Below.refl _ _) | (with_reducible refine Below.drew ?_) | (with_reducible refine belowDrewN ?_ _) | (with_reducible refine belowIter ?_ ?_ _ _) | (with_reducible refine Below.setCell ?_ ?_ _) | (with_reducible refine Below.alloc ?_ ?_ _) | (with_reducible refine Below.trans ?_ (Below.mono hb4 ?_)) | (with_reducible refine Below.trans ?_ (Below.mono hb3 ?_)) | (with_reducible refine Below.trans ?_ (Below.mono hb2 ?_)) | (with_reducible refine Below.trans ?_ (Below.mono hb1 ?_)) | (with_reducible refine Below.trans ?_ (Below.mono hbr ?_)) | (with_reducible refine Below.trans ?_ (Below.mono hb ?_)) | (simp; done) | (simp; omega) | omega))⟩
set_option maxHeartbeats 400000 in
theorem told_long (s : ByteArray) (a : Nat) (k to : Int) (t : ByteArray) (most : Nat) (ht : t.size ≤ maxLen) (w : World) (h : most < t.size) :
    Calls Tryz.prog 78 #[.agg #[.string s, .int .i64 a], .int .i64 k, .int .i64 to, .string t, .int .i64 most] w fun e w' => e = .returned (.tuple #[.agg #[.int .i64 0, .int .i64 0, .int .i64 0, .int .i64 0, .string ⟨#[]⟩], .int .i64 5]) ∧ Below w.heap.size w w' := by
  unfold maxLen at ht
  go_enter Tryz.func78, Tryz.ntmps78
  go_wp2_with (go_at_call 47; refine (refused_in _ _).mono ?_; rintro e w1 ⟨rfl, hb⟩; obtain ⟨hc, hf⟩ := bcell hb; have hz := hb.size; simp at hz)
  refine bodyPost_ret (v := .tuple #[.agg #[.int .i64 0, .int .i64 0, .int .i64 0, .int .i64 0, .string ⟨#[]⟩], .int .i64 5]) (by simp [results, Tryz.results78, go_sem, hc, hf]) rfl ⟨rfl, (by repeat' (first | (with_reducible exact Below.refl _ _) | (with_reducible refine Below.drew ?_) | (with_reducible refine belowDrewN ?_ _) | (with_reducible refine belowIter ?_ ?_ _ _) | (with_reducible refine Below.setCell ?_ ?_ _) | (with_reducible refine Below.alloc ?_ ?_ _) | (with_reducible refine Below.trans ?_ (Below.mono hb4 ?_)) | (with_reducible refine Below.trans ?_ (Below.mono hb3 ?_)) | (with_reducible refine Below.trans ?_ (Below.mono hb2 ?_)) | (with_reducible refine Below.trans ?_ (Below.mono hb1 ?_)) | (with_reducible refine Below.trans ?_ (Below.mono hbr ?_)) | (with_reducible refine Below.trans ?_ (Below.mono hb ?_)) | (simp; done) | (simp; omega) | omega))⟩
end Go.Proofs.YtpadlepdgnlgnaaGreatDoor
