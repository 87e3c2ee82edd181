/- The walks of package octet, the layer of byte classes: each function returns what the plain text says. -/
import Derived.Test.YtpadlepdgnlgnaaGreatDoorRows
import Derived.Test.YtpadlepdgnlgnaaGreatDoorSpec
import Derived.Test.YtpadlepdgnlgnaaGreatDoorShelfB
import Derived.WalkKit
import Derived.WalkSpells
import Derived.WalkLawsBesides
import Derived.Lib.Hide
set_option linter.all false
namespace Go.Proofs.YtpadlepdgnlgnaaGreatDoor
open Go.RowKit Fo

theorem u8_all (p : UInt8 → Bool) (h : (List.range 256).all (fun n => p (UInt8.ofNat n)) = true) (c : UInt8) : p c = true := by
  have := List.all_eq_true.1 h c.toNat (List.mem_range.2 (UInt8.toNat_lt c))
  simpa using this
theorem white_ix (c : UInt8) : decide (0 ≤ Lib.indexByte [0, 9, 10, 12, 13, 32] c) = white c := by
  simpa using u8_all (fun c => decide (0 ≤ Lib.indexByte [0, 9, 10, 12, 13, 32] c) == white c) (by decide +kernel) c
theorem delim_ix (c : UInt8) : decide (0 ≤ Lib.indexByte [40, 41, 60, 62, 91, 93, 123, 125, 47, 37] c) = delim c := by
  simpa using u8_all (fun c => decide (0 ≤ Lib.indexByte [40, 41, 60, 62, 91, 93, 123, 125, 47, 37] c) == delim c) (by decide +kernel) c

theorem ret_bool {a b : Bool} (h : a = b) : Ending.returned (.bool a) = .returned (.bool b) := by rw [h]
theorem ret_int {k : IntKind} {a b : Int} (h : a = b) : Ending.returned (.int k a) = .returned (.int k b) := by rw [h]

set_option maxHeartbeats 400000 in
theorem white_any (c : UInt8) (w : World) :
    Calls Tryz.prog 56 #[.int .u8 c.toNat] w fun e w' => e = .returned (.bool (white c)) ∧ w' = w := by
  go_enter Tryz.func56, Tryz.ntmps56
  go_wp2_with (go_at_call 95; refine (Tryz.strings_IndexByte _ _ _).mono ?_; rintro e w' ⟨rfl, rfl⟩)
  go_ret
  exact ⟨ret_bool (by simpa using white_ix c), rfl⟩
set_option maxHeartbeats 400000 in
theorem delim_any (c : UInt8) (w : World) :
    Calls Tryz.prog 127 #[.int .u8 c.toNat] w fun e w' => e = .returned (.bool (delim c)) ∧ w' = w := by
  go_enter Tryz.func127, Tryz.ntmps127
  go_wp2_with (go_at_call 95; refine (Tryz.strings_IndexByte _ _ _).mono ?_; rintro e w' ⟨rfl, rfl⟩)
  go_ret
  exact ⟨ret_bool (by simpa using delim_ix c), rfl⟩
set_option maxHeartbeats 400000 in
theorem regular_any (c : UInt8) (w : World) :
    Calls Tryz.prog 104 #[.int .u8 c.toNat] w fun e w' => e = .returned (.bool (regular c)) ∧ w' = w := by
  go_enter Tryz.func104, Tryz.ntmps104
  go_wp2_with (first | (go_at_call 56; refine (white_any _ _).mono ?_; rintro e w' ⟨rfl, rfl⟩) | (go_at_call 127; refine (delim_any _ _).mono ?_; rintro e w' ⟨rfl, rfl⟩))
  all_goals go_ret
  all_goals exact ⟨ret_bool (by simp_all [regular]), rfl⟩
theorem u8k (c : UInt8) (n : Nat) (h : n < 256) : ((c.toNat : Int) == (n : Int)) = (c == UInt8.ofNat n) := by
  rw [Bool.eq_iff_iff]; simp only [beq_iff_eq, ← UInt8.toNat_inj, UInt8.toNat_ofNat_of_lt' (show n < UInt8.size from h)]; omega
set_option maxHeartbeats 400000 in
theorem ends_any (c : UInt8) (w : World) :
    Calls Tryz.prog 55 #[.int .u8 c.toNat] w fun e w' => e = .returned (.bool (eol c)) ∧ w' = w := by
  have h13 := u8k c 13 (by decide)
  have h10 := u8k c 10 (by decide)
  have H : Hid (eol c = (c == 13 || c == 10)) := rfl
  by_cases h : c = 13
  · subst h
    clear h13 h10
    go_enter Tryz.func55, Tryz.ntmps55
    go_wp2
    go_ret
    exact ⟨ret_bool (by decide), rfl⟩
  · have h1 : ((c.toNat : Int) == 13) = false := by rw [show (13 : Int) = ((13 : Nat) : Int) from rfl, h13]; simpa using h
    clear h13 h10
    go_enter Tryz.func55, Tryz.ntmps55
    go_wp2
    go_ret
    exact ⟨ret_bool (by rw [H.out, show (10 : Int) = ((10 : Nat) : Int) from rfl, u8k c 10 (by decide)]; simp [h]), rfl⟩
set_option maxHeartbeats 400000 in
theorem digit_any (c : Nat) (hc : c < 256) (w : World) :
    Calls Tryz.prog 79 #[.int .u8 c] w fun e w' => e = .returned (.int .i64 (digit c)) ∧ w' = w := by
  go_enter Tryz.func79, Tryz.ntmps79
  go_wp2
  all_goals go_ret
  all_goals exact ⟨ret_int (by unfold digit; repeat' (split <;> try omega)), rfl⟩

theorem white_yes (c : UInt8) (h : white c = true) (w : World) :
    Calls Tryz.prog 56 #[.int .u8 c.toNat] w fun e w' => e = .returned (.bool true) ∧ w' = w := h ▸ white_any c w
theorem white_no (c : UInt8) (h : white c = false) (w : World) :
    Calls Tryz.prog 56 #[.int .u8 c.toNat] w fun e w' => e = .returned (.bool false) ∧ w' = w := h ▸ white_any c w
theorem drop_get (s : ByteArray) (k : Nat) (h : k < s.size) : s.data.toList.drop k = s[k] :: s.data.toList.drop (k + 1) := by
  rw [List.drop_eq_getElem_cons (by simpa using h)]; rfl
theorem skipN_le (b : Bool) (l : L) : skipN b l ≤ l.length := by
  induction l generalizing b with
  | nil => cases b <;> simp [skipN]
  | cons c l ih =>
    cases b <;> simp only [skipN, List.length_cons]
    · have h1 := ih true; have h2 := ih false
      split
      · omega
      · split <;> omega
    · have := ih (!eol c); omega
theorem eq_yes {c : UInt8} {n : Nat} (hn : n < 256) (h : c = UInt8.ofNat n) : ((c.toNat : Int) == (n : Int)) = true := by rw [u8k c n hn]; simpa using h
theorem eq_no {c : UInt8} {n : Nat} (hn : n < 256) (h : ¬ c = UInt8.ofNat n) : ((c.toNat : Int) == (n : Int)) = false := by rw [u8k c n hn]; simpa using h
set_option maxHeartbeats 400000 in
theorem skip_in (s : ByteArray) (a : Nat) (ha : a ≤ s.size) (hs : s.size ≤ maxLen) (w : World) :
    Calls Tryz.prog 26 #[.string s, .int .i64 a] w fun e w' => e = .returned (.int .i64 (a + skipN false (s.data.toList.drop a) : Nat)) ∧ w' = w := by
  unfold maxLen at hs
  obtain ⟨T, hT⟩ : ∃ T, a + skipN false (s.data.toList.drop a) = T := ⟨_, rfl⟩
  rw [hT]
  have HT := Lib.hid hT; clear hT
  have hz0 : decide ((a : Int) < 0) = false := by simp
  have hz1 : decide (s.size < a) = false := by simp; omega
  go_enter Tryz.func26, Tryz.ntmps26
  go_wp2
  go_loop [1, 5] (fun p r => ∃ (k : Nat) (b : Bool), k ≤ s.size ∧ p = .int .i64 k ∧ r = .bool b ∧ Hid (k + skipN b (s.data.toList.drop k) = T)) (fun p _ => s.size - (intOf p).toNat)
  case atStart => exact ⟨a, false, ha, rfl, rfl, HT⟩
  case round =>
    obtain ⟨k, b, hk, rfl, rfl, H⟩ := hrel
    clear HT
    by_cases hlt : k < s.size
    · have H1 := H.out
      rw [drop_get s k hlt] at H1
      have H2 := Lib.hid H1; clear H1 H
      cases b
      · by_cases h37 : s[k] = 37
        · have h1 : ((s[k].toNat : Int) == 37) = true := eq_yes (n := 37) (by decide) h37
          have H37 := Lib.hid h37; clear h37
          go_wp2
          go_round
          case rel => exact ⟨k + 1, true, by omega, by go_num, rfl, by have := H2.out; rw [H37.out] at this; simp only [skipN, beq_self_eq_true, if_true] at this; show _ = _; omega⟩
          case measure => simp [intOf]; omega
        · have h1 : ((s[k].toNat : Int) == 37) = false := eq_no (n := 37) (by decide) h37
          have H37 := Lib.hid h37; clear h37
          cases hw : white s[k]
          · have HW := Lib.hid hw; clear hw
            go_wp2_with (go_at_call 56; refine (white_no _ HW.out _).mono ?_; rintro e w' ⟨rfl, rfl⟩)
            go_ret
            exact ⟨ret_int (by have := H2.out; simp [skipN, H37.out, HW.out] at this; omega), rfl⟩
          · have HW := Lib.hid hw; clear hw
            go_wp2_with (go_at_call 56; refine (white_yes _ HW.out _).mono ?_; rintro e w' ⟨rfl, rfl⟩)
            go_round
            case rel => exact ⟨k + 1, false, by omega, by go_num, rfl, by have := H2.out; simp [skipN, H37.out, HW.out] at this; show _ = _; omega⟩
            case measure => simp [intOf]; omega
      · go_wp2_with (go_at_call 55; refine (ends_any _ _).mono ?_; rintro e w' ⟨rfl, rfl⟩)
        go_round
        case rel => exact ⟨k + 1, !eol s[k], by omega, by go_num, rfl, by have := H2.out; simp only [skipN] at this; show _ = _; omega⟩
        case measure => simp [intOf]; omega
    · have hk2 : k = s.size := by omega
      subst hk2
      have H1 := Lib.hid (show s.size = T by have := H.out; rw [List.drop_eq_nil_of_le (by simp)] at this; cases b <;> simpa [skipN] using this)
      clear H
      go_wp2
      go_ret
      exact ⟨ret_int (by rw [H1.out]), rfl⟩

theorem extract_end (s : ByteArray) (a : Nat) : List.take (s.size - a) (List.drop a s.data.toList) = s.data.toList.drop a :=
  List.take_of_length_le (by simp)
set_option maxHeartbeats 400000 in
theorem begins_in (s p : ByteArray) (a : Nat) (ha : a ≤ s.size) (hs : s.size ≤ maxLen) (w : World) :
    Calls Tryz.prog 48 #[.string s, .string p, .int .i64 a] w fun e w' => e = .returned (.bool (Lib.hasPrefix (s.data.toList.drop a) p.data.toList)) ∧ w' = w := by
  unfold maxLen at hs
  have hz0 : decide (0 ≤ (a : Int)) = true := by simp
  have hz1 : decide (a ≤ s.size) = true := by simp; omega
  go_enter Tryz.func48, Tryz.ntmps48
  go_wp2_with (go_at_call 77; refine (Tryz.strings_HasPrefix _ _ _).mono ?_; rintro e w' ⟨rfl, rfl⟩)
  go_ret
  exact ⟨ret_bool (by rw [extract_end]), rfl⟩
theorem begins_as (s p : ByteArray) (a : Nat) (b : Bool) (h : Lib.hasPrefix (s.data.toList.drop a) p.data.toList = b) (ha : a ≤ s.size) (hs : s.size ≤ maxLen) (w : World) :
    Calls Tryz.prog 48 #[.string s, .string p, .int .i64 a] w fun e w' => e = .returned (.bool b) ∧ w' = w := h ▸ begins_in s p a ha hs w
theorem lineN_le (l : L) : lineN l ≤ l.length := by
  fun_induction lineN l <;> simp_all <;> omega
theorem lineN_cons (c : UInt8) (l : L) : lineN (c :: l) = if c = 10 then 1 else if c = 13 then (if l.head? = some 10 then 2 else 1) else lineN l + 1 := by
  by_cases h : c = 13
  · subst h
    cases l with
    | nil => simp [lineN, eol]
    | cons d l =>
      by_cases hd : d = 10
      · subst hd; simp [lineN]
      · rw [lineN]
        · simp [eol, hd]
        · intro d' h1 h2; simp_all
  · rw [lineN]
    · by_cases h2 : c = 10 <;> simp [eol, h, h2]
    · intro d h1 h2; simp_all
theorem crlf_at (s : ByteArray) (k : Nat) (h : k < s.size) (hc : s[k] = 13) : Lib.hasPrefix (s.data.toList.drop k) [13, 10] = ((s.data.toList.drop (k + 1)).head? == some 10) := by
  rw [drop_get s k h, hc]
  cases s.data.toList.drop (k + 1) with
  | nil => simp [Lib.hasPrefix]
  | cons d l => by_cases hd : d = 10 <;> simp [Lib.hasPrefix, List.isPrefixOf, hd, Bool.beq_comm]
set_option maxHeartbeats 400000 in
theorem line_in (s : ByteArray) (a : Nat) (ha : a ≤ s.size) (hs : s.size ≤ maxLen) (w : World) :
    Calls Tryz.prog 105 #[.string s, .int .i64 a] w fun e w' => e = .returned (.int .i64 (a + lineN (s.data.toList.drop a) : Nat)) ∧ w' = w := by
  have hs' := Lib.hid hs
  unfold maxLen at hs
  obtain ⟨T, hT⟩ : ∃ T, a + lineN (s.data.toList.drop a) = T := ⟨_, rfl⟩
  rw [hT]
  have HT := Lib.hid hT; clear hT
  have hz0 : decide ((a : Int) < 0) = false := by simp
  have hz1 : decide (s.size < a) = false := by simp; omega
  go_enter Tryz.func105, Tryz.ntmps105
  go_wp2
  go_loop [1] (fun p => ∃ (k : Nat), k ≤ s.size ∧ p = .int .i64 k ∧ Hid (k + lineN (s.data.toList.drop k) = T)) (fun p => s.size - (intOf p).toNat)
  case atStart => exact ⟨a, ha, rfl, HT⟩
  case round =>
    obtain ⟨k, hk, rfl, H⟩ := hrel
    clear HT
    by_cases hlt : k < s.size
    · have H1 := H.out
      rw [drop_get s k hlt, lineN_cons] at H1
      have H2 := Lib.hid H1; clear H1 H
      by_cases h10 : s[k] = 10
      · have h1 : ((s[k].toNat : Int) == 10) = true := eq_yes (n := 10) (by decide) h10
        have H10 := Lib.hid h10; clear h10
        go_wp2
        go_ret
        exact ⟨ret_int (by have := H2.out; simp [H10.out] at this; omega), rfl⟩
      · have h1 : ((s[k].toNat : Int) == 10) = false := eq_no (n := 10) (by decide) h10
        have H10 := Lib.hid h10; clear h10
        by_cases h13 : s[k] = 13
        · have h2 : ((s[k].toNat : Int) == 13) = true := eq_yes (n := 13) (by decide) h13
          have HC := crlf_at s k hlt h13
          have H13 := Lib.hid h13; clear h13
          by_cases hn : (s.data.toList.drop (k + 1)).head? = some 10
          · have hk1 : k + 1 < s.size := by
              apply Classical.byContradiction; intro h
              rw [List.drop_eq_nil_of_le (by simp; omega)] at hn; simp at hn
            rw [hn] at HC
            have HC2 := Lib.hid HC; have HN := Lib.hid hn; clear HC hn
            go_wp2_with (go_at_call 48; refine (begins_as _ _ _ true HC2.out (by omega) hs'.out _).mono ?_; rintro e w' ⟨rfl, rfl⟩)
            go_ret
            exact ⟨ret_int (by have := H2.out; rw [H13.out, if_neg (by decide), if_pos rfl, if_pos HN.out] at this; omega), rfl⟩
          · rw [beq_eq_false_iff_ne.2 hn] at HC
            have HC2 := Lib.hid HC; have HN := Lib.hid hn; clear HC hn
            go_wp2_with (go_at_call 48; refine (begins_as _ _ _ false HC2.out (by omega) hs'.out _).mono ?_; rintro e w' ⟨rfl, rfl⟩)
            go_ret
            exact ⟨ret_int (by have := H2.out; rw [H13.out, if_neg (by decide), if_pos rfl, if_neg HN.out] at this; omega), rfl⟩
        · have h2 : ((s[k].toNat : Int) == 13) = false := eq_no (n := 13) (by decide) h13
          have H13 := Lib.hid h13; clear h13
          go_wp2
          go_round
          case rel => exact ⟨k + 1, by omega, by go_num, by have := H2.out; simp [H10.out, H13.out] at this; show _ = _; omega⟩
          case measure => simp [intOf]; omega
    · have hk2 : k = s.size := by omega
      subst hk2
      have H1 := Lib.hid (show s.size = T by have := H.out; rw [List.drop_eq_nil_of_le (by simp)] at this; simpa [lineN] using this)
      clear H
      go_wp2
      go_ret
      exact ⟨ret_int (by rw [H1.out]), rfl⟩
end Go.Proofs.YtpadlepdgnlgnaaGreatDoor
