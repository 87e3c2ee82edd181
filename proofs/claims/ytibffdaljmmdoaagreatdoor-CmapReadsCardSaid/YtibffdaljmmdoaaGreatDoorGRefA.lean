/- The walks of the document's answer, foliantref01 to foliantref03, the first half. -/
import Derived.Test.YtibffdaljmmdoaaGreatDoorGLib
import Derived.Deep.DeepCutAuto
import Derived.Test.YtibffdaljmmdoaaGreatDoorGPlain
import Derived.Test.YtibffdaljmmdoaaGreatDoorGLexA
import Derived.Deep.QuietTactic
import Derived.BigQuiet
set_option linter.all false
/- The walks of foliantref01, the reference's byte classes and skipping: each answers as the plain text says. -/
namespace Go.Proofs.YtibffdaljmmdoaaGreatDoor
open Go.RowKit Fo

theorem white_nat (c : UInt8) : white c = decide (c.toNat = 0 ∨ c.toNat = 9 ∨ c.toNat = 10 ∨ c.toNat = 12 ∨ c.toNat = 13 ∨ c.toNat = 32) := by
  simpa using u8_all (fun c => white c == decide (c.toNat = 0 ∨ c.toNat = 9 ∨ c.toNat = 10 ∨ c.toNat = 12 ∨ c.toNat = 13 ∨ c.toNat = 32)) (by decide +kernel) c
theorem delim_nat (c : UInt8) : delim c = decide (c.toNat = 40 ∨ c.toNat = 41 ∨ c.toNat = 60 ∨ c.toNat = 62 ∨ c.toNat = 91 ∨ c.toNat = 93 ∨ c.toNat = 123 ∨ c.toNat = 125 ∨ c.toNat = 47 ∨ c.toNat = 37) := by
  simpa using u8_all (fun c => delim c == decide (c.toNat = 40 ∨ c.toNat = 41 ∨ c.toNat = 60 ∨ c.toNat = 62 ∨ c.toNat = 91 ∨ c.toNat = 93 ∨ c.toNat = 123 ∨ c.toNat = 125 ∨ c.toNat = 47 ∨ c.toNat = 37)) (by decide +kernel) c
set_option maxHeartbeats 400000 in
theorem rwhite (c : UInt8) (w : World) : Calls Tryz.prog 107 #[.int .u8 c.toNat] w fun e w' => e = .returned (.bool (white c)) ∧ w' = w := by
  go_enter Tryz.func107, Tryz.ntmps107
  go_wp2
  all_goals go_ret
  all_goals exact ⟨ret_bool (by rw [white_nat]; symm; first | (rw [decide_eq_true_eq]; omega) | (rw [decide_eq_false_iff_not]; omega) | (rw [Bool.eq_iff_iff]; simp only [decide_eq_true_eq, Bool.or_eq_true, beq_iff_eq]; omega)), rfl⟩
set_option maxHeartbeats 400000 in
theorem rdelim (c : UInt8) (w : World) : Calls Tryz.prog 156 #[.int .u8 c.toNat] w fun e w' => e = .returned (.bool (delim c)) ∧ w' = w := by
  go_enter Tryz.func156, Tryz.ntmps156
  go_wp2
  all_goals go_ret
  all_goals exact ⟨ret_bool (by rw [delim_nat]; symm; first | (rw [decide_eq_true_eq]; omega) | (rw [decide_eq_false_iff_not]; omega) | (rw [Bool.eq_iff_iff]; simp only [decide_eq_true_eq, Bool.or_eq_true, beq_iff_eq]; omega)), rfl⟩
set_option maxHeartbeats 400000 in
theorem rregular (c : UInt8) (w : World) : Calls Tryz.prog 135 #[.int .u8 c.toNat] w fun e w' => e = .returned (.bool (regular c)) ∧ w' = w := by
  have H1 := Lib.hid (fun W => rwhite c W)
  have H2 := Lib.hid (fun W => rdelim c W)
  have HR := Lib.hid (show regular c = (!white c && !delim c) from rfl)
  obtain ⟨b1, hb1⟩ : ∃ b, white c = b := ⟨_, rfl⟩
  obtain ⟨b2, hb2⟩ : ∃ b, delim c = b := ⟨_, rfl⟩
  rw [hb1] at H1 HR
  rw [hb2] at H2 HR
  clear hb1 hb2
  cases b1 <;> cases b2
  all_goals
    go_enter Tryz.func135, Tryz.ntmps135
    go_wp2_with (first | (go_at_call 107; refine (H1.out _).mono ?_; rintro e w' ⟨rfl, rfl⟩) | (go_at_call 156; refine (H2.out _).mono ?_; rintro e w' ⟨rfl, rfl⟩))
    go_ret
    exact ⟨ret_bool (by rw [HR.out]; rfl), rfl⟩
set_option maxRecDepth 100000 in
set_option maxHeartbeats 400000 in
theorem rdigit (c : UInt8) (w : World) : Calls Tryz.prog 136 #[.int .u8 c.toNat] w fun e w' => e = .returned (.int .i64 (hexv c)) ∧ w' = w := by
  have hc : (c.toNat : Int) < 256 := by have := UInt8.toNat_lt c; omega
  go_enter Tryz.func136, Tryz.ntmps136
  go_wp2
  all_goals go_ret
  all_goals exact ⟨ret_int (by unfold hexv digit; (repeat' split) <;> omega), rfl⟩
set_option maxHeartbeats 400000 in
theorem rrun (s : ByteArray) (a : Nat) (ha : a ≤ s.size) (hs : s.size ≤ maxLen) (w : World) :
    Calls Tryz.prog 108 #[.string s, .int .i64 a] w fun e w' => e = .returned (.int .i64 (a + regN (s.data.toList.drop a) : Nat)) ∧ w' = w := by
  unfold maxLen at hs
  obtain ⟨T, hT⟩ : ∃ T, a + regN (s.data.toList.drop a) = T := ⟨_, rfl⟩
  rw [hT]
  have HT := Lib.hid hT; clear hT
  go_enter Tryz.func108, Tryz.ntmps108
  go_wp2
  go_loop [1] (fun p => ∃ k : Nat, k ≤ s.size ∧ p = .int .i64 k ∧ Hid (k + regN (s.data.toList.drop k) = T)) (fun p => s.size - (intOf p).toNat)
  case atStart => exact ⟨a, ha, rfl, HT⟩
  case round =>
    obtain ⟨k, hk, rfl, H⟩ := hrel
    clear HT
    by_cases hlt : k < s.size
    · have H1 := H.out
      rw [drop_get s k hlt, regN] at H1
      have H2 := Lib.hid H1; clear H1 H
      have HRG := Lib.hid (fun W => rregular s[k] W)
      cases hr : regular s[k]
      · rw [hr] at H2 HRG
        clear hr
        go_wp2_with (go_at_call 135; refine (HRG.out _).mono ?_; rintro e w' ⟨rfl, rfl⟩)
        go_ret
        exact ⟨ret_int (by have := H2.out; simp at this; omega), rfl⟩
      · rw [hr] at H2 HRG
        clear hr
        go_wp2_with (go_at_call 135; refine (HRG.out _).mono ?_; rintro e w' ⟨rfl, rfl⟩)
        go_round
        case rel => exact ⟨k + 1, by omega, by go_num, by have := H2.out; simp at this; show _ = _; omega⟩
        case measure => simp [intOf]; omega
    · have H1 := Lib.hid (show k = T by have := H.out; rw [List.drop_eq_nil_of_le (by simp; omega)] at this; simpa [regN] using this)
      clear H
      go_wp2
      go_ret
      exact ⟨ret_int (by rw [H1.out]), rfl⟩
/-- Does a text begin with a carriage return and a line feed? -/
def crlf (l : L) : Bool := l.take 2 == [13, 10]
set_option maxHeartbeats 400000 in
theorem rbegins (s : ByteArray) (k : Nat) (hk : k < s.size) (hs : s.size ≤ 140737488355328) (w : World) :
    Calls Tryz.prog 134 #[.string s, .string ⟨#[13, 10]⟩, .int .i64 k] w fun e w' => e = .returned (.bool (crlf (s.data.toList.drop k))) ∧ w' = w := by
  by_cases h2 : k + 2 ≤ s.size
  · have e1 : decide ((k : Int) ≤ s.size) = true := by simp; omega
    have e2 : decide ((2 : Int) ≤ s.size - k) = true := by simp; omega
    have e3 : (s.extract k (k + 2)).data.toList = (s.data.toList.drop k).take 2 := by
      rw [Lib.extract_data]; simp
    have HX := Lib.hid e3
    clear e3
    go_enter Tryz.func134, Tryz.ntmps134
    go_wp2
    all_goals go_ret
    all_goals (refine ⟨ret_bool ?_, rfl⟩)
    all_goals (unfold crlf; rw [← HX.out]; first | rfl | (simp [Lib.toList_data]; done))
  · have e1 : decide ((k : Int) ≤ s.size) = true := by simp; omega
    have e2 : decide ((2 : Int) ≤ s.size - k) = false := by simp; omega
    have HX := Lib.hid (show crlf (s.data.toList.drop k) = false by
      unfold crlf
      have h1 : (s.data.toList.drop k).length ≤ 1 := by simp; have : s.data.size = s.size := rfl; omega
      rw [List.take_of_length_le (by omega)]
      cases h : s.data.toList.drop k with
      | nil => rfl
      | cons c l => rw [h] at h1; have : l = [] := by simpa using h1
                    subst this; simp)
    go_enter Tryz.func134, Tryz.ntmps134
    go_wp2
    all_goals go_ret
    all_goals exact ⟨ret_bool HX.out.symm, rfl⟩
end Go.Proofs.YtibffdaljmmdoaaGreatDoor
/- The walks of foliantref01.Line and foliantref01.Skip. -/
namespace Go.Proofs.YtibffdaljmmdoaaGreatDoor
open Go.RowKit Fo

theorem crlf_nil : crlf [] = false := rfl
theorem crlf_cons (c : UInt8) (l : L) : crlf (c :: l) = (c == 13 && l.head? == some 10) := by
  cases l with
  | nil => simp [crlf]
  | cons d l => simp [crlf]
theorem lineN_yes (l : L) (h : crlf l = true) : lineN l = 2 := by
  cases l with
  | nil => simp [crlf_nil] at h
  | cons c l =>
    rw [crlf_cons] at h
    simp only [Bool.and_eq_true, beq_iff_eq] at h
    obtain ⟨rfl, h⟩ := h
    rw [lineN_cons, if_neg (by decide), if_pos rfl, if_pos h]
theorem lineN_no (c : UInt8) (l : L) (h : crlf (c :: l) = false) : lineN (c :: l) = if c.toNat = 13 ∨ c.toNat = 10 then 1 else lineN l + 1 := by
  rw [crlf_cons] at h
  rw [lineN_cons]
  by_cases h1 : c = 10
  · subst h1; rfl
  · have h1' : c.toNat ≠ 10 := fun h => h1 (UInt8.toNat.inj (by simpa using h))
    rw [if_neg h1]
    by_cases h2 : c = 13
    · subst h2
      have : ¬ l.head? = some 10 := by simpa using h
      rw [if_pos rfl, if_neg this, if_pos (.inl rfl)]
    · have h2' : c.toNat ≠ 13 := fun h => h2 (UInt8.toNat.inj (by simpa using h))
      rw [if_neg h2, if_neg (by omega)]
theorem skip_line : ∀ (l : L), skipN true l = lineN l + skipN false (l.drop (lineN l))
  | [] => rfl
  | c :: l => by
    rw [skipN, lineN_cons]
    by_cases h1 : c = 10
    · subst h1; simp [eol]; omega
    · rw [if_neg h1]
      by_cases h2 : c = 13
      · subst h2
        rw [if_pos rfl]
        cases l with
        | nil => simp [eol, skipN]
        | cons d l =>
          by_cases hd : d = 10
          · subst hd; simp [eol, skipN, white]; omega
          · simp [eol, hd]; omega
      · rw [if_neg h2]
        have : eol c = false := by simp [eol, h1, h2]
        rw [this, List.drop_succ_cons]; simp only [Bool.not_false]; rw [skip_line l]; omega
theorem skip_hash (l : L) : skipN false (37 :: l) = lineN (37 :: l) + skipN false ((37 :: l).drop (lineN (37 :: l))) := by
  have h : lineN (37 :: l) = lineN l + 1 := by rw [lineN_cons]; simp
  rw [h]
  simp only [skipN, beq_self_eq_true, if_true, List.drop_succ_cons]
  have := skip_line l
  omega
set_option maxHeartbeats 400000 in
theorem rline (s : ByteArray) (a : Nat) (ha : a ≤ s.size) (hs : s.size ≤ 140737488355327) (w : World) :
    Calls Tryz.prog 106 #[.string s, .int .i64 a] w fun e w' => e = .returned (.int .i64 (a + lineN (s.data.toList.drop a) : Nat)) ∧ w' = w := by
  obtain ⟨T, hT⟩ : ∃ T, a + lineN (s.data.toList.drop a) = T := ⟨_, rfl⟩
  rw [hT]
  have HT := Lib.hid hT; clear hT
  have hz0 : decide ((a : Int) < 0) = false := by simp
  have hz1 : decide (s.size < a) = false := by simp; omega
  go_enter Tryz.func106, Tryz.ntmps106
  go_wp2
  go_loop [5] (fun p => ∃ (k : Nat), k ≤ s.size ∧ p = .int .i64 k ∧ Hid (k + lineN (s.data.toList.drop k) = T)) (fun p => s.size - (intOf p).toNat)
  case atStart => exact ⟨a, ha, rfl, HT⟩
  case round =>
    obtain ⟨k, hk, rfl, H⟩ := hrel
    clear HT
    by_cases hlt : k < s.size
    · have HB := Lib.hid (fun W => rbegins s k hlt (by omega) W)
      cases hb : crlf (s.data.toList.drop k)
      · rw [hb] at HB
        have H1 := H.out
        rw [drop_get s k hlt, lineN_no _ _ (by rw [← drop_get s k hlt]; exact hb)] at H1
        clear H hb
        by_cases h13 : s[k] = 13
        · have h1 : ((s[k].toNat : Int) == 13) = true := eq_yes (n := 13) (by decide) h13
          have H2 := Lib.hid (show k + 1 = T by rw [if_pos (.inl (by rw [h13]; rfl))] at H1; exact H1)
          clear h13 H1
          go_wp2_with fail
          refine (HB.out _).mono ?_
          rintro e w1 ⟨rfl, rfl⟩
          go_wp2
          go_ret
          exact ⟨ret_int (by have := H2.out; omega), rfl⟩
        · have h1 : ((s[k].toNat : Int) == 13) = false := eq_no (n := 13) (by decide) h13
          have g1 : s[k].toNat ≠ 13 := fun h => h13 (UInt8.toNat.inj (by simpa using h))
          by_cases h10 : s[k] = 10
          · have h2 : ((s[k].toNat : Int) == 10) = true := eq_yes (n := 10) (by decide) h10
            have H2 := Lib.hid (show k + 1 = T by rw [if_pos (.inr (by rw [h10]; rfl))] at H1; exact H1)
            clear h13 h10 H1 g1
            go_wp2_with fail
            refine (HB.out _).mono ?_
            rintro e w1 ⟨rfl, rfl⟩
            go_wp2
            go_ret
            exact ⟨ret_int (by have := H2.out; omega), rfl⟩
          · have h2 : ((s[k].toNat : Int) == 10) = false := eq_no (n := 10) (by decide) h10
            have g2 : s[k].toNat ≠ 10 := fun h => h10 (UInt8.toNat.inj (by simpa using h))
            have H2 := Lib.hid (show k + (lineN (s.data.toList.drop (k + 1)) + 1) = T by rw [if_neg (by omega)] at H1; exact H1)
            clear h13 h10 H1 g1 g2
            go_wp2_with fail
            refine (HB.out _).mono ?_
            rintro e w1 ⟨rfl, rfl⟩
            go_wp2
            go_round
            case rel => exact ⟨k + 1, by omega, by go_num, by have := H2.out; show _ = _; omega⟩
            case measure => simp [intOf]; omega
      · rw [hb] at HB
        have H2 := Lib.hid (show k + 2 = T by have := H.out; rw [lineN_yes _ hb] at this; exact this)
        clear H hb
        go_wp2_with fail
        refine (HB.out _).mono ?_
        rintro e w1 ⟨rfl, rfl⟩
        go_wp2
        go_ret
        exact ⟨ret_int (by have := H2.out; omega), rfl⟩
    · have hk2 : k = s.size := by omega
      subst hk2
      have H1 := Lib.hid (show s.size = T by have := H.out; rw [List.drop_eq_nil_of_le (by simp)] at this; simpa [lineN] using this)
      clear H
      go_wp2
      go_ret
      exact ⟨ret_int (by rw [H1.out]), rfl⟩
theorem rlineN_pos {l : L} (h : l ≠ []) : 1 ≤ lineN l := by
  cases l with
  | nil => exact absurd rfl h
  | cons c l => rw [lineN_cons]; split <;> first | omega | (split <;> first | omega | (split <;> omega))
set_option maxHeartbeats 400000 in
theorem rskip (s : ByteArray) (a : Nat) (ha : a ≤ s.size) (hs : s.size ≤ 140737488355327) (w : World) :
    Calls Tryz.prog 72 #[.string s, .int .i64 a] w fun e w' => e = .returned (.int .i64 (a + skipN false (s.data.toList.drop a) : Nat)) ∧ w' = w := by
  obtain ⟨T, hT⟩ : ∃ T, a + skipN false (s.data.toList.drop a) = T := ⟨_, rfl⟩
  rw [hT]
  have HT := Lib.hid hT; clear hT
  have hz0 : decide ((a : Int) < 0) = false := by simp
  have hz1 : decide (s.size < a) = false := by simp; omega
  go_enter Tryz.func72, Tryz.ntmps72
  go_wp2
  go_loop [1] (fun p => ∃ (k : Nat), k ≤ s.size ∧ p = .int .i64 k ∧ Hid (k + skipN false (s.data.toList.drop k) = T)) (fun p => s.size - (intOf p).toNat)
  case atStart => exact ⟨a, ha, rfl, HT⟩
  case round =>
    obtain ⟨k, hk, rfl, H⟩ := hrel
    clear HT
    by_cases hlt : k < s.size
    · by_cases h37 : s[k] = 37
      · have h1 : ((s[k].toNat : Int) == 37) = true := eq_yes (n := 37) (by decide) h37
        obtain ⟨d, hd⟩ : ∃ d, lineN (s.data.toList.drop k) = d := ⟨_, rfl⟩
        have hd1 : 1 ≤ d := by rw [← hd]; exact rlineN_pos (by rw [drop_get s k hlt]; simp)
        have hd2 : k + d ≤ s.size := by have := lineN_le (s.data.toList.drop k); rw [hd, List.length_drop] at this; have : s.data.toList.length = s.size := rfl; omega
        have H2 := Lib.hid (show k + d + skipN false (s.data.toList.drop (k + d)) = T by
          have h5 := H.out
          rw [drop_get s k hlt, h37, skip_hash] at h5
          rw [drop_get s k hlt, h37] at hd
          rw [hd, ← h37, ← drop_get s k hlt, List.drop_drop] at h5
          omega)
        have HL := Lib.hid (fun W => rline s k hk hs W)
        rw [hd] at HL
        clear H h37 hd
        go_wp2_with fail
        refine (HL.out _).mono ?_
        rintro e w1 ⟨rfl, rfl⟩
        go_wp2
        go_round
        case rel => exact ⟨k + d, hd2, by go_num, H2.out⟩
        case measure => simp [intOf]; omega
      · have h1 : ((s[k].toNat : Int) == 37) = false := eq_no (n := 37) (by decide) h37
        have HW := Lib.hid (fun W => rwhite s[k] W)
        have H1 := H.out
        rw [drop_get s k hlt, skipN, if_neg (by simpa using h37)] at H1
        have H2 := Lib.hid H1
        clear H1 H h37
        cases hw : white s[k]
        · rw [hw] at HW H2
          clear hw
          go_wp2_with fail
          refine (HW.out _).mono ?_
          rintro e w1 ⟨rfl, rfl⟩
          go_wp2
          go_ret
          exact ⟨ret_int (by have := H2.out; simp at this; omega), rfl⟩
        · rw [hw] at HW H2
          clear hw
          go_wp2_with fail
          refine (HW.out _).mono ?_
          rintro e w1 ⟨rfl, rfl⟩
          go_wp2
          go_round
          case rel => exact ⟨k + 1, by omega, by go_num, by have := H2.out; simp at this; show _ = _; omega⟩
          case measure => simp [intOf]; omega
    · have hk2 : k = s.size := by omega
      subst hk2
      have H1 := Lib.hid (show s.size = T by have := H.out; rw [List.drop_eq_nil_of_le (by simp)] at this; simpa [skipN] using this)
      clear H
      go_wp2
      go_ret
      exact ⟨ret_int (by rw [H1.out]), rfl⟩
end Go.Proofs.YtibffdaljmmdoaaGreatDoor
/- The walks of foliantref03's integers and points: each answers as the plain text says. -/
namespace Go.Proofs.YtibffdaljmmdoaaGreatDoor
open Go.RowKit Fo

theorem dig_nat (c : UInt8) : isDig c = decide (48 ≤ c.toNat ∧ c.toNat ≤ 57) := by
  simpa using u8_all (fun c => isDig c == decide (48 ≤ c.toNat ∧ c.toNat ≤ 57)) (by decide +kernel) c
theorem sign_nat (c : UInt8) : sign c = decide (c.toNat = 43 ∨ c.toNat = 45) := by
  simpa using u8_all (fun c => sign c == decide (c.toNat = 43 ∨ c.toNat = 45)) (by decide +kernel) c
set_option maxHeartbeats 400000 in
theorem rpoint (s : ByteArray) (hs : s.size ≤ 140737488355327) (w : World) :
    Calls Tryz.prog 142 #[.string s] w fun e w' => e = .returned (.bool (s.data.toList.contains 46)) ∧ w' = w := by
  obtain ⟨T, hT⟩ : ∃ T, s.data.toList.contains 46 = T := ⟨_, rfl⟩
  rw [hT]
  have HT := Lib.hid hT; clear hT
  go_enter Tryz.func142, Tryz.ntmps142
  go_wp2
  go_loop [3] (fun p => ∃ (k : Nat), k ≤ s.size ∧ p = .int .i64 k ∧ Hid ((s.data.toList.drop k).contains 46 = T)) (fun p => s.size - (intOf p).toNat)
  case atStart => exact ⟨0, Nat.zero_le _, rfl, HT⟩
  case round =>
    obtain ⟨k, hk, rfl, H⟩ := hrel
    clear HT
    by_cases hlt : k < s.size
    · have H1 := H.out
      rw [drop_get s k hlt, List.contains_cons] at H1
      by_cases h46 : s[k] = 46
      · have h1 : ((s[k].toNat : Int) == 46) = true := eq_yes (n := 46) (by decide) h46
        have H2 := Lib.hid (show true = T by rw [h46] at H1; simpa using H1)
        clear h46 H1 H
        go_wp2
        go_ret
        exact ⟨ret_bool H2.out, rfl⟩
      · have h1 : ((s[k].toNat : Int) == 46) = false := eq_no (n := 46) (by decide) h46
        have H2 := Lib.hid (show (s.data.toList.drop (k + 1)).contains 46 = T by
          have : ((46 : UInt8) == s[k]) = false := by simpa using fun h => h46 h.symm
          rw [this] at H1; simpa using H1)
        clear h46 H1 H
        go_wp2
        go_round
        case rel => exact ⟨k + 1, by omega, by go_num, H2⟩
        case measure => simp [intOf]; omega
    · have hk2 : k = s.size := by omega
      subst hk2
      have H1 := Lib.hid (show false = T by have := H.out; rw [List.drop_eq_nil_of_le (by simp)] at this; simpa using this)
      clear H
      go_wp2
      go_ret
      exact ⟨ret_bool H1.out, rfl⟩
set_option maxHeartbeats 400000 in
theorem rinteger (s : ByteArray) (hs : s.size ≤ 140737488355327) (w : World) :
    Calls Tryz.prog 140 #[.string s] w fun e w' => e = .returned (.bool (isInt s.data.toList)) ∧ w' = w := by
  obtain ⟨T, hT⟩ : ∃ T, isInt s.data.toList = T := ⟨_, rfl⟩
  rw [hT]
  by_cases h0 : s.size = 0
  · obtain rfl : s = ⟨#[]⟩ := ByteArray.ext (Array.eq_empty_of_size_eq_zero h0)
    have HT := Lib.hid (show false = T from hT)
    clear hT hs h0
    go_enter Tryz.func140, Tryz.ntmps140
    go_wp2
    go_loop [3] (fun p => p = .int .i64 0) (fun _ => 0)
    case atStart => rfl
    case round =>
      subst hrel
      go_wp2
      go_ret
      exact ⟨ret_bool HT.out, rfl⟩
  · have hp : 0 < s.size := by omega
    have hne : s.toList.isEmpty = false := by
      rw [Lib.toList_data, List.isEmpty_eq_false_iff]
      intro h; have : s.data.toList.length = s.size := rfl; rw [h] at this; simp at this; omega
    have hu := hT
    unfold isInt at hu
    have hd := drop_get s 0 hp
    rw [List.drop_zero] at hd
    rw [hd, unsigned] at hu
    by_cases h43 : s[0].toNat = 43 ∨ s[0].toNat = 45
    · obtain ⟨t, ht⟩ : ∃ t, s.extract 1 s.size = t := ⟨_, rfl⟩
      have htl : t.data.toList = s.data.toList.drop 1 := by rw [← ht]; exact Lib.extract_to_end _ _
      have hts : t.size ≤ 140737488355327 := by
        have : t.data.toList.length = t.size := rfl
        have h2 : s.data.toList.length = s.size := rfl
        rw [htl, List.length_drop] at this; omega
      obtain ⟨D, hD⟩ : ∃ D, t.data.toList.all isDig = D := ⟨_, rfl⟩
      have HT := Lib.hid (show (!t.data.toList.isEmpty && D) = T by rw [← hD, htl]; rw [if_pos (by rw [sign_nat]; simpa using h43)] at hu; exact hu)
      have HD := Lib.hid hD
      have HX := Lib.hid ht
      clear hu hd hD htl hT ht
      rcases h43 with h43 | h43
      · have e1 : ((s[0].toNat : Int) == 43) = true := by simp; omega
        clear h43
        go_enter Tryz.func140, Tryz.ntmps140
        go_wp2
        rw [HX.out]
        go_loop [3] (fun p => ∃ (k : Nat), k ≤ t.size ∧ p = .int .i64 k ∧ Hid ((t.data.toList.drop k).all isDig = D)) (fun p => t.size - (intOf p).toNat)
        case atStart => exact ⟨0, Nat.zero_le _, rfl, HD⟩
        case round =>
          obtain ⟨k, hk, rfl, H⟩ := hrel
          clear HD
          by_cases hlt : k < t.size
          · have H1 := H.out
            rw [drop_get t k hlt, List.all_cons, dig_nat] at H1
            by_cases h48 : t[k].toNat < 48
            · have H2 := Lib.hid (show false = T by
                have : D = false := by rw [← H1]; simp; omega
                rw [← HT.out, this]; simp)
              have h5 : (t[k].toNat : Int) < 48 := by omega
              clear H1 H
              go_wp2
              go_ret
              exact ⟨ret_bool H2.out, rfl⟩
            · by_cases h57 : 57 < t[k].toNat
              · have H2 := Lib.hid (show false = T by
                  have : D = false := by rw [← H1]; simp; omega
                  rw [← HT.out, this]; simp)
                have h5 : ¬ (t[k].toNat : Int) < 48 := by omega
                have h6 : (57 : Int) < t[k].toNat := by omega
                clear H1 H
                go_wp2
                go_ret
                exact ⟨ret_bool H2.out, rfl⟩
              · have H2 := Lib.hid (show (t.data.toList.drop (k + 1)).all isDig = D by
                  have : decide (48 ≤ t[k].toNat ∧ t[k].toNat ≤ 57) = true := by simp; omega
                  rw [this] at H1; simpa using H1)
                have h5 : ¬ (t[k].toNat : Int) < 48 := by omega
                have h6 : ¬ (57 : Int) < t[k].toNat := by omega
                clear H1 H
                go_wp2
                go_round
                case rel => exact ⟨k + 1, by omega, by go_num, H2⟩
                case measure => simp [intOf]; omega
          · have hk2 : k = t.size := by omega
            subst hk2
            have H1 := Lib.hid (show D = true by have := H.out; rw [List.drop_eq_nil_of_le (by simp)] at this; simpa using this.symm)
            clear H
            go_wp2
            go_ret
            exact ⟨ret_bool (by first | (rw [← HT.out, H1.out, Lib.toList_data]; simp; done) | (rw [← HT.out, H1.out, ← Lib.toList_data, hne]; rfl)), rfl⟩
      · have e1 : ((s[0].toNat : Int) == 43) = false := by simp; omega
        have e2 : ((s[0].toNat : Int) == 45) = true := by simp; omega
        clear h43
        go_enter Tryz.func140, Tryz.ntmps140
        go_wp2
        rw [HX.out]
        go_loop [3] (fun p => ∃ (k : Nat), k ≤ t.size ∧ p = .int .i64 k ∧ Hid ((t.data.toList.drop k).all isDig = D)) (fun p => t.size - (intOf p).toNat)
        case atStart => exact ⟨0, Nat.zero_le _, rfl, HD⟩
        case round =>
          obtain ⟨k, hk, rfl, H⟩ := hrel
          clear HD
          by_cases hlt : k < t.size
          · have H1 := H.out
            rw [drop_get t k hlt, List.all_cons, dig_nat] at H1
            by_cases h48 : t[k].toNat < 48
            · have H2 := Lib.hid (show false = T by
                have : D = false := by rw [← H1]; simp; omega
                rw [← HT.out, this]; simp)
              have h5 : (t[k].toNat : Int) < 48 := by omega
              clear H1 H
              go_wp2
              go_ret
              exact ⟨ret_bool H2.out, rfl⟩
            · by_cases h57 : 57 < t[k].toNat
              · have H2 := Lib.hid (show false = T by
                  have : D = false := by rw [← H1]; simp; omega
                  rw [← HT.out, this]; simp)
                have h5 : ¬ (t[k].toNat : Int) < 48 := by omega
                have h6 : (57 : Int) < t[k].toNat := by omega
                clear H1 H
                go_wp2
                go_ret
                exact ⟨ret_bool H2.out, rfl⟩
              · have H2 := Lib.hid (show (t.data.toList.drop (k + 1)).all isDig = D by
                  have : decide (48 ≤ t[k].toNat ∧ t[k].toNat ≤ 57) = true := by simp; omega
                  rw [this] at H1; simpa using H1)
                have h5 : ¬ (t[k].toNat : Int) < 48 := by omega
                have h6 : ¬ (57 : Int) < t[k].toNat := by omega
                clear H1 H
                go_wp2
                go_round
                case rel => exact ⟨k + 1, by omega, by go_num, H2⟩
                case measure => simp [intOf]; omega
          · have hk2 : k = t.size := by omega
            subst hk2
            have H1 := Lib.hid (show D = true by have := H.out; rw [List.drop_eq_nil_of_le (by simp)] at this; simpa using this.symm)
            clear H
            go_wp2
            go_ret
            exact ⟨ret_bool (by first | (rw [← HT.out, H1.out, Lib.toList_data]; simp; done) | (rw [← HT.out, H1.out, ← Lib.toList_data, hne]; rfl)), rfl⟩
    · obtain ⟨t, rfl⟩ : ∃ t, t = s := ⟨_, rfl⟩
      obtain ⟨D, hD⟩ : ∃ D, t.data.toList.all isDig = D := ⟨_, rfl⟩
      have HT := Lib.hid (show (!t.data.toList.isEmpty && D) = T by rw [← hD]; rw [if_neg (by rw [sign_nat]; simpa using h43)] at hu; rw [← hd] at hu; exact hu)
      have HD := Lib.hid hD
      have e1 : ((t[0].toNat : Int) == 43) = false := by simp; omega
      have e2 : ((t[0].toNat : Int) == 45) = false := by simp; omega
      clear hu hd hD hT h43
      go_enter Tryz.func140, Tryz.ntmps140
      go_wp2
      go_loop [3] (fun p => ∃ (k : Nat), k ≤ t.size ∧ p = .int .i64 k ∧ Hid ((t.data.toList.drop k).all isDig = D)) (fun p => t.size - (intOf p).toNat)
      case atStart => exact ⟨0, Nat.zero_le _, rfl, HD⟩
      case round =>
        obtain ⟨k, hk, rfl, H⟩ := hrel
        clear HD
        by_cases hlt : k < t.size
        · have H1 := H.out
          rw [drop_get t k hlt, List.all_cons, dig_nat] at H1
          by_cases h48 : t[k].toNat < 48
          · have H2 := Lib.hid (show false = T by
              have : D = false := by rw [← H1]; simp; omega
              rw [← HT.out, this]; simp)
            have h5 : (t[k].toNat : Int) < 48 := by omega
            clear H1 H
            go_wp2
            go_ret
            exact ⟨ret_bool H2.out, rfl⟩
          · by_cases h57 : 57 < t[k].toNat
            · have H2 := Lib.hid (show false = T by
                have : D = false := by rw [← H1]; simp; omega
                rw [← HT.out, this]; simp)
              have h5 : ¬ (t[k].toNat : Int) < 48 := by omega
              have h6 : (57 : Int) < t[k].toNat := by omega
              clear H1 H
              go_wp2
              go_ret
              exact ⟨ret_bool H2.out, rfl⟩
            · have H2 := Lib.hid (show (t.data.toList.drop (k + 1)).all isDig = D by
                have : decide (48 ≤ t[k].toNat ∧ t[k].toNat ≤ 57) = true := by simp; omega
                rw [this] at H1; simpa using H1)
              have h5 : ¬ (t[k].toNat : Int) < 48 := by omega
              have h6 : ¬ (57 : Int) < t[k].toNat := by omega
              clear H1 H
              go_wp2
              go_round
              case rel => exact ⟨k + 1, by omega, by go_num, H2⟩
              case measure => simp [intOf]; omega
        · have hk2 : k = t.size := by omega
          subst hk2
          have H1 := Lib.hid (show D = true by have := H.out; rw [List.drop_eq_nil_of_le (by simp)] at this; simpa using this.symm)
          clear H
          go_wp2
          go_ret
          exact ⟨ret_bool (by first | (rw [← HT.out, H1.out, Lib.toList_data]; simp; done) | (rw [← HT.out, H1.out, ← Lib.toList_data, hne]; rfl)), rfl⟩
def accV (v : Nat) (l : L) : Nat := l.foldl (fun v c => if sign c then v else 10 * v + (c.toNat - 48)) v
theorem accV_ge (l : L) (v : Nat) : v ≤ accV v l := by
  induction l generalizing v with
  | nil => exact Nat.le_refl _
  | cons c l ih =>
    unfold accV at ih ⊢
    rw [List.foldl_cons]
    refine Nat.le_trans ?_ (ih _)
    split <;> omega
theorem accV_cons (v : Nat) (c : UInt8) (l : L) : accV v (c :: l) = accV (if sign c then v else 10 * v + (c.toNat - 48)) l := rfl
theorem dig_no_sign {c : UInt8} (h : isDig c = true) : sign c = false := by
  rw [dig_nat] at h; rw [sign_nat]; simp at h ⊢; omega
theorem accV_dig (l : L) (v : Nat) (h : l.all isDig = true) : accV v l = l.foldl (fun v c => 10 * v + (c.toNat - 48)) v := by
  induction l generalizing v with
  | nil => rfl
  | cons c l ih =>
    rw [List.all_cons, Bool.and_eq_true] at h
    rw [accV_cons, dig_no_sign h.1, List.foldl_cons]
    exact ih _ h.2
theorem int_cons {c : UInt8} {l : L} (h : isInt (c :: l) = true) : (sign c || isDig c) = true ∧ l.all isDig = true ∧ accV 0 (c :: l) = val (unsigned (c :: l)) := by
  unfold isInt at h
  rw [unsigned] at h ⊢
  rw [Bool.and_eq_true] at h
  obtain ⟨_, h⟩ := h
  cases hs : sign c
  · rw [hs] at h
    simp only [Bool.false_eq_true, if_false] at h ⊢
    refine ⟨?_, ?_, accV_dig _ 0 h⟩
    · unfold allDig at h; rw [List.all_cons, Bool.and_eq_true] at h; simp [h.1]
    · unfold allDig at h; rw [List.all_cons, Bool.and_eq_true] at h; exact h.2
  · rw [hs] at h
    simp only [if_true] at h ⊢
    refine ⟨by simp, h, ?_⟩
    rw [accV_cons, hs]
    exact accV_dig _ 0 h
theorem int_all {l : L} (h : isInt l = true) : (l.all fun c => sign c || isDig c) = true ∧ accV 0 l = val (unsigned l) ∧ l ≠ [] := by
  cases l with
  | nil => cases h
  | cons c l =>
    obtain ⟨h1, h2, h3⟩ := int_cons h
    refine ⟨?_, h3, by simp⟩
    rw [List.all_cons, h1]
    simp only [Bool.true_and]
    rw [List.all_eq_true] at h2 ⊢
    intro x hx
    simp [h2 x hx]
def WholeOut : Res Int → Ending
  | .bad e => .returned (.tuple #[.int .i64 0, .int .i64 e])
  | .good n => .returned (.tuple #[.int .i64 n, .int .i64 0])
set_option maxHeartbeats 400000 in
theorem rwhole (s : ByteArray) (hs : s.size ≤ 140737488355327) (hi : isInt s.data.toList = true) (w : World) :
    Calls Tryz.prog 141 #[.string s] w fun e w' => e = WholeOut (wholeV s.data.toList) ∧ w' = w := by
  obtain ⟨ha, hv, hn⟩ := int_all hi
  obtain ⟨T, hT⟩ : ∃ T, wholeV s.data.toList = T := ⟨_, rfl⟩
  rw [hT]
  unfold wholeV at hT
  obtain ⟨V, hV⟩ : ∃ V, val (unsigned s.data.toList) = V := ⟨_, rfl⟩
  rw [hV] at hT hv
  have hp : 0 < s.size := by
    rcases Nat.eq_zero_or_pos s.size with h | h
    · exact absurd (List.eq_nil_of_length_eq_zero h) hn
    · exact h
  have hmn : minus s.data.toList = (s[0] == 45) := by
    have hd := drop_get s 0 hp
    rw [List.drop_zero] at hd
    rw [hd]; rfl
  rw [hmn] at hT
  have HT := Lib.hid hT
  have HV := Lib.hid hv
  have HA := Lib.hid ha
  clear hmn hT hv ha hV hn hi
  go_enter Tryz.func141, Tryz.ntmps141
  go_wp2
  go_loop [4, 5] (fun n i => ∃ (k v : Nat), k ≤ s.size ∧ v ≤ 2147483647 ∧ i = .int .i64 k ∧ n = .int .i64 v ∧ Hid (accV v (s.data.toList.drop k) = V)) (fun _ i => s.size - (intOf i).toNat)
  case atStart => exact ⟨0, 0, Nat.zero_le _, by omega, rfl, rfl, HV⟩
  case round =>
    obtain ⟨k, v, hk, hv, rfl, rfl, H⟩ := hrel
    clear HV
    by_cases hlt : k < s.size
    · have H1 := H.out
      rw [drop_get s k hlt, accV_cons] at H1
      have hc : (sign s[k] || isDig s[k]) = true := by
        have := HA.out
        rw [List.all_eq_true] at this
        exact this s[k] (List.mem_of_mem_drop (i := k) (by rw [drop_get s k hlt]; simp))
      by_cases h43 : s[k].toNat = 43
      · have e1 : ((s[k].toNat : Int) == 43) = true := by simp; omega
        have H2 := Lib.hid (show accV v (s.data.toList.drop (k + 1)) = V by rw [sign_nat] at H1; simpa [h43] using H1)
        clear H1 H hc h43
        go_wp2
        go_round
        case rel => exact ⟨k + 1, v, by omega, hv, by go_num, rfl, H2⟩
        case measure => simp [intOf]; omega
      by_cases h45 : s[k].toNat = 45
      · have e1 : ((s[k].toNat : Int) == 43) = false := by simp; omega
        have e2 : ((s[k].toNat : Int) == 45) = true := by simp; omega
        have H2 := Lib.hid (show accV v (s.data.toList.drop (k + 1)) = V by rw [sign_nat] at H1; simpa [h45] using H1)
        clear H1 H hc h43 h45
        go_wp2
        go_round
        case rel => exact ⟨k + 1, v, by omega, hv, by go_num, rfl, H2⟩
        case measure => simp [intOf]; omega
      · have e1 : ((s[k].toNat : Int) == 43) = false := by simp; omega
        have e2 : ((s[k].toNat : Int) == 45) = false := by simp; omega
        have hsg : sign s[k] = false := by rw [sign_nat]; simp; omega
        rw [hsg, dig_nat] at hc
        simp only [Bool.false_or, decide_eq_true_eq] at hc
        obtain ⟨hc1, hc2⟩ := hc
        rw [hsg] at H1
        simp only [Bool.false_eq_true, if_false] at H1
        obtain ⟨c, hcc⟩ : ∃ c, s[k].toNat = c := ⟨_, rfl⟩
        rw [hcc] at H1 hc1 hc2
        have hci : ((s[k].toNat : Nat) : Int) = c := by rw [hcc]
        have e3 : ((c : Int) == 43) = false := by simp; omega
        have e4 : ((c : Int) == 45) = false := by simp; omega
        clear e1 e2
        by_cases hbig : 2147483647 < 10 * v + (c - 48)
        · have H2 := Lib.hid (show T = .bad 2 by have := accV_ge (s.data.toList.drop (k + 1)) (10 * v + (c - 48)); rw [← HT.out, if_pos (by omega)])
          have hb2 : (2147483647 : Int) < 10 * v + c - 48 := by omega
          clear H1 H h43 h45 hsg hcc
          go_wp2
          refine bodyPost_ret (v := .tuple #[.int .i64 0, .int .i64 2]) (by simp [results, Tryz.results141, go_sem]) rfl ⟨by rw [H2.out]; rfl, rfl⟩
        · have H2 := Lib.hid H1
          have hb2 : ¬ (2147483647 : Int) < 10 * v + c - 48 := by omega
          clear H1 H h43 h45 hsg hcc
          go_wp2
          go_round
          case rel => exact ⟨k + 1, 10 * v + (c - 48), by omega, by omega, by go_num, (by congr 1; omega), H2⟩
          case measure => simp [intOf]; omega
    · have hk2 : k = s.size := by omega
      subst hk2
      have H1 := Lib.hid (show v = V by have := H.out; rw [List.drop_eq_nil_of_le (by simp)] at this; exact this)
      clear H
      by_cases h45 : s[0].toNat = 45
      · have e2 : ((s[0].toNat : Int) == 45) = true := by simp; omega
        have H2 := Lib.hid (show T = .good (-(v : Int)) by rw [← HT.out, ← H1.out, if_neg (by omega), if_pos (by simpa using UInt8.toNat.inj (by simpa using h45))])
        clear h45
        go_wp2
        refine bodyPost_ret (v := .tuple #[.int .i64 (-(v : Int)), .int .i64 0]) (by simp [results, Tryz.results141, go_sem]) rfl ⟨by rw [H2.out]; rfl, rfl⟩
      · have e2 : ((s[0].toNat : Int) == 45) = false := by simp; omega
        have H2 := Lib.hid (show T = .good (v : Int) by rw [← HT.out, ← H1.out, if_neg (by omega), if_neg (by simp; intro h; exact h45 (by rw [h]; rfl))])
        clear h45
        go_wp2
        refine bodyPost_ret (v := .tuple #[.int .i64 v, .int .i64 0]) (by simp [results, Tryz.results141, go_sem]) rfl ⟨by rw [H2.out]; rfl, rfl⟩
end Go.Proofs.YtibffdaljmmdoaaGreatDoor
/- The walk of foliantref02.form: the digits ahead of the point and behind it. -/
namespace Go.Proofs.YtibffdaljmmdoaaGreatDoor
open Go.RowKit Fo

def formS : L → L → Bool → L → Option (L × L)
  | w, p, _, [] => some (w, p)
  | w, p, b, c :: l => if c = 46 ∧ b = false then formS w p true l else if isDig c = false then none else if b then formS w (p ++ [c]) b l else formS (w ++ [c]) p b l
theorem formS_dot (l : L) : ∀ (w p : L), formS w p true l = if allDig l then some (w, p ++ l) else none := by
  induction l with
  | nil => intro w p; simp [formS, allDig]
  | cons c l ih =>
    intro w p
    rw [formS, if_neg (by simp)]
    cases hd : isDig c
    · simp [allDig, hd]
    · rw [if_neg (by simp), if_pos rfl, ih]
      simp [allDig, hd]
theorem formS_pre (l : L) : ∀ (w p : L), formS w p false l = if allDig (preDot l) && allDig (postDot l) then some (w ++ preDot l, p ++ postDot l) else none := by
  induction l with
  | nil => intro w p; simp [formS, allDig, preDot, postDot]
  | cons c l ih =>
    intro w p
    rw [formS]
    by_cases h : c = 46
    · subst h
      rw [if_pos ⟨rfl, rfl⟩, formS_dot]
      simp [preDot, postDot, allDig]
    · rw [if_neg (by simp [h])]
      have h1 : preDot (c :: l) = c :: preDot l := by simp [preDot, h]
      have h2 : postDot (c :: l) = postDot l := by simp [postDot, h]
      rw [h1, h2]
      cases hd : isDig c
      · simp [allDig, hd]
      · rw [if_neg (by simp), if_neg (by simp), ih]
        simp [allDig, hd]
def FormOut (mn : Bool) : Option (L × L) → Ending
  | none => .returned (.tuple #[.string ⟨#[]⟩, .string ⟨#[]⟩, .bool false, .bool false])
  | some (w, p) => .returned (.tuple #[.string ⟨w.toArray⟩, .string ⟨p.toArray⟩, .bool mn, .bool (decide (0 < w.length + p.length))])
theorem cat_one (P : L) (t : ByteArray) (k : Nat) (h : k < t.size) : (ByteArray.mk P.toArray) ++ t.extract k (k + 1) = ByteArray.mk (P ++ [t[k]]).toArray := by
  apply ByteArray.ext
  simp only [ByteArray.data_append, ByteArray.data_extract]
  apply Array.ext'
  simp only [Array.toList_append, Array.toList_extract, List.extract_eq_take_drop]
  have := drop_get t k h
  rw [this]
  simp
set_option maxRecDepth 100000 in
set_option maxHeartbeats 1000000 in
theorem rform (s : ByteArray) (hs : s.size ≤ 40) (w : World) :
    Calls Tryz.prog 157 #[.string s] w fun e w' => e = FormOut (minus s.data.toList) (formS [] [] false (unsigned s.data.toList)) ∧ w' = w := by
  obtain ⟨R, hR⟩ : ∃ R, formS [] [] false (unsigned s.data.toList) = R := ⟨_, rfl⟩
  rw [hR]
  have hz40 : decide ((40 : Int) < s.size) = false := by simp; omega
  by_cases h0 : s.size = 0
  · obtain rfl : s = ⟨#[]⟩ := ByteArray.ext (Array.eq_empty_of_size_eq_zero h0)
    have HR := Lib.hid (show some ([], []) = R from hR)
    rw [show minus (ByteArray.mk #[]).data.toList = false from rfl]
    clear hR hs h0
    go_enter Tryz.func157, Tryz.ntmps157
    go_wp2
    go_loop [7, 8, 9, 10] (fun wh pa pt i => i = .int .i64 0 ∧ wh = .string ⟨#[]⟩ ∧ pa = .string ⟨#[]⟩ ∧ pt = .bool false) (fun _ _ _ _ => 0)
    case atStart => exact ⟨rfl, rfl, rfl, rfl⟩
    case round =>
      obtain ⟨rfl, rfl, rfl, rfl⟩ := hrel
      go_wp2
      refine bodyPost_ret (v := .tuple #[.string ⟨#[]⟩, .string ⟨#[]⟩, .bool false, .bool false]) (by simp [results, Tryz.results157, go_sem]) rfl ⟨by rw [← HR.out]; rfl, rfl⟩
  · have hp : 0 < s.size := by omega
    have hne : s.toList.isEmpty = false := by
      rw [Lib.toList_data, List.isEmpty_eq_false_iff]
      intro h; have : s.data.toList.length = s.size := rfl; rw [h] at this; simp at this; omega
    have hd := drop_get s 0 hp
    rw [List.drop_zero] at hd
    have hmn : minus s.data.toList = (s[0] == 45) := by rw [hd]; rfl
    rw [hmn]
    have hu := hR
    rw [hd, unsigned] at hu
    by_cases h43 : s[0].toNat = 43 ∨ s[0].toNat = 45
    · obtain ⟨t, ht⟩ : ∃ t, s.extract 1 s.size = t := ⟨_, rfl⟩
      have htl : t.data.toList = s.data.toList.drop 1 := by rw [← ht]; exact Lib.extract_to_end _ _
      have hts : t.size ≤ 40 := by
        have : t.data.toList.length = t.size := rfl
        have h2 : s.data.toList.length = s.size := rfl
        rw [htl, List.length_drop] at this; omega
      have HR := Lib.hid (show formS [] [] false (t.data.toList.drop 0) = R by rw [if_pos (by rw [sign_nat]; simpa using h43)] at hu; rw [List.drop_zero, htl]; exact hu)
      have HX := Lib.hid ht
      rcases h43 with h43 | h43
      · have e1 : ((s[0].toNat : Int) == 43) = true := by simp; omega
        have e2 : ((s[0].toNat : Int) == 45) = false := by simp; omega
        have hm2 : (s[0] == 45) = false := by simp; intro h; rw [h] at h43; cases h43
        rw [hm2]
        clear h43 hu hd htl hR ht hmn hm2
        go_enter Tryz.func157, Tryz.ntmps157
        go_wp2
        rw [HX.out]
        go_loop [7, 8, 9, 10] (fun wh pa pt i => ∃ (k : Nat) (W P : L) (b : Bool), k ≤ t.size ∧ i = .int .i64 k ∧ wh = .string ⟨W.toArray⟩ ∧ pa = .string ⟨P.toArray⟩ ∧ pt = .bool b ∧ W.length + P.length ≤ k ∧ Hid (formS W P b (t.data.toList.drop k) = R)) (fun _ _ _ i => t.size - (intOf i).toNat)
        case atStart => exact ⟨0, [], [], false, Nat.zero_le _, rfl, rfl, rfl, rfl, Nat.le_refl _, HR⟩
        case round =>
          obtain ⟨k, W, P, b, hk, rfl, rfl, rfl, rfl, hWP, H⟩ := hrel
          clear HR
          by_cases hlt : k < t.size
          · have H1 := H.out
            rw [drop_get t k hlt, formS] at H1
            clear H
            by_cases h46 : t[k].toNat = 46
            · have e46 : ((t[k].toNat : Int) == 46) = true := by simp; omega
              have h46' : t[k] = 46 := UInt8.toNat.inj (by simpa using h46)
              cases b
              · have H2 := Lib.hid (show formS W P true (t.data.toList.drop (k + 1)) = R by rw [if_pos ⟨h46', rfl⟩] at H1; exact H1)
                clear H1 h46 h46'
                go_wp2
                go_round
                case rel => exact ⟨k + 1, W, P, true, by omega, by go_num, rfl, rfl, rfl, by omega, H2⟩
                case measure => simp [intOf]; omega
              · have H2 := Lib.hid (show none = R by rw [if_neg (by simp), if_pos (by rw [dig_nat]; simp; omega)] at H1; exact H1)
                have h5 : (t[k].toNat : Int) < 48 := by omega
                clear H1 h46 h46'
                go_wp2
                refine bodyPost_ret (v := .tuple #[.string ⟨#[]⟩, .string ⟨#[]⟩, .bool false, .bool false]) (by simp [results, Tryz.results157, go_sem]) rfl ⟨by rw [← H2.out]; rfl, rfl⟩
            · have e46 : ((t[k].toNat : Int) == 46) = false := by simp; omega
              have h46' : ¬ t[k] = 46 := fun h => h46 (by rw [h]; rfl)
              rw [if_neg (by simp [h46'])] at H1
              by_cases h48 : t[k].toNat < 48
              · have H2 := Lib.hid (show none = R by rw [if_pos (by rw [dig_nat]; simp; omega)] at H1; exact H1)
                have h5 : (t[k].toNat : Int) < 48 := by omega
                clear H1 h46 h46'
                cases b
                · skip
                  go_wp2
                  refine bodyPost_ret (v := .tuple #[.string ⟨#[]⟩, .string ⟨#[]⟩, .bool false, .bool false]) (by simp [results, Tryz.results157, go_sem]) rfl ⟨by rw [← H2.out]; rfl, rfl⟩
                · skip
                  go_wp2
                  refine bodyPost_ret (v := .tuple #[.string ⟨#[]⟩, .string ⟨#[]⟩, .bool false, .bool false]) (by simp [results, Tryz.results157, go_sem]) rfl ⟨by rw [← H2.out]; rfl, rfl⟩
              by_cases h57 : 57 < t[k].toNat
              · have H2 := Lib.hid (show none = R by rw [if_pos (by rw [dig_nat]; simp; omega)] at H1; exact H1)
                have h5 : ¬ (t[k].toNat : Int) < 48 := by omega
                have h6 : (57 : Int) < t[k].toNat := by omega
                clear H1 h46 h46'
                cases b
                · skip
                  go_wp2
                  refine bodyPost_ret (v := .tuple #[.string ⟨#[]⟩, .string ⟨#[]⟩, .bool false, .bool false]) (by simp [results, Tryz.results157, go_sem]) rfl ⟨by rw [← H2.out]; rfl, rfl⟩
                · skip
                  go_wp2
                  refine bodyPost_ret (v := .tuple #[.string ⟨#[]⟩, .string ⟨#[]⟩, .bool false, .bool false]) (by simp [results, Tryz.results157, go_sem]) rfl ⟨by rw [← H2.out]; rfl, rfl⟩
              have h5 : ¬ (t[k].toNat : Int) < 48 := by omega
              have h6 : ¬ (57 : Int) < t[k].toNat := by omega
              rw [if_neg (by rw [dig_nat]; simp; omega)] at H1
              have z1 : P.length + 1 ≤ 9223372036854775807 := by omega
              have z2 : W.length + 1 ≤ 9223372036854775807 := by omega
              have z3 : min (k + 1) t.size - k = 1 := by omega
              clear h46 h46' h48 h57
              cases b
              · have H2 := Lib.hid (show formS (W ++ [t[k]]) P false (t.data.toList.drop (k + 1)) = R by rw [if_neg (by simp)] at H1; exact H1)
                clear H1
                go_wp2
                go_round
                case rel => exact ⟨k + 1, W ++ [t[k]], P, false, by omega, by go_num, by rw [cat_one W t k hlt], rfl, rfl, by simp; omega, H2⟩
                case measure => simp [intOf]; omega
              · have H2 := Lib.hid (show formS W (P ++ [t[k]]) true (t.data.toList.drop (k + 1)) = R by rw [if_pos rfl] at H1; exact H1)
                clear H1
                go_wp2
                go_round
                case rel => exact ⟨k + 1, W, P ++ [t[k]], true, by omega, by go_num, rfl, by rw [cat_one P t k hlt], rfl, by simp; omega, H2⟩
                case measure => simp [intOf]; omega
          · have hk2 : k = t.size := by omega
            subst hk2
            have H2 := Lib.hid (show some (W, P) = R by have := H.out; rw [List.drop_eq_nil_of_le (by simp)] at this; exact this)
            have z1 : W.length + P.length ≤ 9223372036854775807 := by omega
            clear H
            go_wp2
            refine bodyPost_ret (v := .tuple #[.string ⟨W.toArray⟩, .string ⟨P.toArray⟩, .bool false, .bool (decide (0 < W.length + P.length))]) (by simp [results, Tryz.results157, go_sem]; omega) rfl ⟨by rw [← H2.out]; rfl, rfl⟩
      · have e1 : ((s[0].toNat : Int) == 43) = false := by simp; omega
        have e2 : ((s[0].toNat : Int) == 45) = true := by simp; omega
        have hm2 : (s[0] == 45) = true := by simpa using UInt8.toNat.inj (by simpa using h43)
        rw [hm2]
        clear h43 hu hd htl hR ht hmn hm2
        go_enter Tryz.func157, Tryz.ntmps157
        go_wp2
        rw [HX.out]
        go_loop [7, 8, 9, 10] (fun wh pa pt i => ∃ (k : Nat) (W P : L) (b : Bool), k ≤ t.size ∧ i = .int .i64 k ∧ wh = .string ⟨W.toArray⟩ ∧ pa = .string ⟨P.toArray⟩ ∧ pt = .bool b ∧ W.length + P.length ≤ k ∧ Hid (formS W P b (t.data.toList.drop k) = R)) (fun _ _ _ i => t.size - (intOf i).toNat)
        case atStart => exact ⟨0, [], [], false, Nat.zero_le _, rfl, rfl, rfl, rfl, Nat.le_refl _, HR⟩
        case round =>
          obtain ⟨k, W, P, b, hk, rfl, rfl, rfl, rfl, hWP, H⟩ := hrel
          clear HR
          by_cases hlt : k < t.size
          · have H1 := H.out
            rw [drop_get t k hlt, formS] at H1
            clear H
            by_cases h46 : t[k].toNat = 46
            · have e46 : ((t[k].toNat : Int) == 46) = true := by simp; omega
              have h46' : t[k] = 46 := UInt8.toNat.inj (by simpa using h46)
              cases b
              · have H2 := Lib.hid (show formS W P true (t.data.toList.drop (k + 1)) = R by rw [if_pos ⟨h46', rfl⟩] at H1; exact H1)
                clear H1 h46 h46'
                go_wp2
                go_round
                case rel => exact ⟨k + 1, W, P, true, by omega, by go_num, rfl, rfl, rfl, by omega, H2⟩
                case measure => simp [intOf]; omega
              · have H2 := Lib.hid (show none = R by rw [if_neg (by simp), if_pos (by rw [dig_nat]; simp; omega)] at H1; exact H1)
                have h5 : (t[k].toNat : Int) < 48 := by omega
                clear H1 h46 h46'
                go_wp2
                refine bodyPost_ret (v := .tuple #[.string ⟨#[]⟩, .string ⟨#[]⟩, .bool false, .bool false]) (by simp [results, Tryz.results157, go_sem]) rfl ⟨by rw [← H2.out]; rfl, rfl⟩
            · have e46 : ((t[k].toNat : Int) == 46) = false := by simp; omega
              have h46' : ¬ t[k] = 46 := fun h => h46 (by rw [h]; rfl)
              rw [if_neg (by simp [h46'])] at H1
              by_cases h48 : t[k].toNat < 48
              · have H2 := Lib.hid (show none = R by rw [if_pos (by rw [dig_nat]; simp; omega)] at H1; exact H1)
                have h5 : (t[k].toNat : Int) < 48 := by omega
                clear H1 h46 h46'
                cases b
                · skip
                  go_wp2
                  refine bodyPost_ret (v := .tuple #[.string ⟨#[]⟩, .string ⟨#[]⟩, .bool false, .bool false]) (by simp [results, Tryz.results157, go_sem]) rfl ⟨by rw [← H2.out]; rfl, rfl⟩
                · skip
                  go_wp2
                  refine bodyPost_ret (v := .tuple #[.string ⟨#[]⟩, .string ⟨#[]⟩, .bool false, .bool false]) (by simp [results, Tryz.results157, go_sem]) rfl ⟨by rw [← H2.out]; rfl, rfl⟩
              by_cases h57 : 57 < t[k].toNat
              · have H2 := Lib.hid (show none = R by rw [if_pos (by rw [dig_nat]; simp; omega)] at H1; exact H1)
                have h5 : ¬ (t[k].toNat : Int) < 48 := by omega
                have h6 : (57 : Int) < t[k].toNat := by omega
                clear H1 h46 h46'
                cases b
                · skip
                  go_wp2
                  refine bodyPost_ret (v := .tuple #[.string ⟨#[]⟩, .string ⟨#[]⟩, .bool false, .bool false]) (by simp [results, Tryz.results157, go_sem]) rfl ⟨by rw [← H2.out]; rfl, rfl⟩
                · skip
                  go_wp2
                  refine bodyPost_ret (v := .tuple #[.string ⟨#[]⟩, .string ⟨#[]⟩, .bool false, .bool false]) (by simp [results, Tryz.results157, go_sem]) rfl ⟨by rw [← H2.out]; rfl, rfl⟩
              have h5 : ¬ (t[k].toNat : Int) < 48 := by omega
              have h6 : ¬ (57 : Int) < t[k].toNat := by omega
              rw [if_neg (by rw [dig_nat]; simp; omega)] at H1
              have z1 : P.length + 1 ≤ 9223372036854775807 := by omega
              have z2 : W.length + 1 ≤ 9223372036854775807 := by omega
              have z3 : min (k + 1) t.size - k = 1 := by omega
              clear h46 h46' h48 h57
              cases b
              · have H2 := Lib.hid (show formS (W ++ [t[k]]) P false (t.data.toList.drop (k + 1)) = R by rw [if_neg (by simp)] at H1; exact H1)
                clear H1
                go_wp2
                go_round
                case rel => exact ⟨k + 1, W ++ [t[k]], P, false, by omega, by go_num, by rw [cat_one W t k hlt], rfl, rfl, by simp; omega, H2⟩
                case measure => simp [intOf]; omega
              · have H2 := Lib.hid (show formS W (P ++ [t[k]]) true (t.data.toList.drop (k + 1)) = R by rw [if_pos rfl] at H1; exact H1)
                clear H1
                go_wp2
                go_round
                case rel => exact ⟨k + 1, W, P ++ [t[k]], true, by omega, by go_num, rfl, by rw [cat_one P t k hlt], rfl, by simp; omega, H2⟩
                case measure => simp [intOf]; omega
          · have hk2 : k = t.size := by omega
            subst hk2
            have H2 := Lib.hid (show some (W, P) = R by have := H.out; rw [List.drop_eq_nil_of_le (by simp)] at this; exact this)
            have z1 : W.length + P.length ≤ 9223372036854775807 := by omega
            clear H
            go_wp2
            refine bodyPost_ret (v := .tuple #[.string ⟨W.toArray⟩, .string ⟨P.toArray⟩, .bool true, .bool (decide (0 < W.length + P.length))]) (by simp [results, Tryz.results157, go_sem]; omega) rfl ⟨by rw [← H2.out]; rfl, rfl⟩
    · obtain ⟨t, rfl⟩ : ∃ t, t = s := ⟨_, rfl⟩
      have HR := Lib.hid (show formS [] [] false (t.data.toList.drop 0) = R by rw [if_neg (by rw [sign_nat]; simpa using h43)] at hu; rw [List.drop_zero, hd]; exact hu)
      have e1 : ((t[0].toNat : Int) == 43) = false := by simp; omega
      have e2 : ((t[0].toNat : Int) == 45) = false := by simp; omega
      have hm2 : (t[0] == 45) = false := by simp; intro h; exact h43 (.inr (by rw [h]; rfl))
      rw [hm2]
      clear hu hd hR h43 hmn hm2
      go_enter Tryz.func157, Tryz.ntmps157
      go_wp2
      go_loop [7, 8, 9, 10] (fun wh pa pt i => ∃ (k : Nat) (W P : L) (b : Bool), k ≤ t.size ∧ i = .int .i64 k ∧ wh = .string ⟨W.toArray⟩ ∧ pa = .string ⟨P.toArray⟩ ∧ pt = .bool b ∧ W.length + P.length ≤ k ∧ Hid (formS W P b (t.data.toList.drop k) = R)) (fun _ _ _ i => t.size - (intOf i).toNat)
      case atStart => exact ⟨0, [], [], false, Nat.zero_le _, rfl, rfl, rfl, rfl, Nat.le_refl _, HR⟩
      case round =>
        obtain ⟨k, W, P, b, hk, rfl, rfl, rfl, rfl, hWP, H⟩ := hrel
        clear HR
        by_cases hlt : k < t.size
        · have H1 := H.out
          rw [drop_get t k hlt, formS] at H1
          clear H
          by_cases h46 : t[k].toNat = 46
          · have e46 : ((t[k].toNat : Int) == 46) = true := by simp; omega
            have h46' : t[k] = 46 := UInt8.toNat.inj (by simpa using h46)
            cases b
            · have H2 := Lib.hid (show formS W P true (t.data.toList.drop (k + 1)) = R by rw [if_pos ⟨h46', rfl⟩] at H1; exact H1)
              clear H1 h46 h46'
              go_wp2
              go_round
              case rel => exact ⟨k + 1, W, P, true, by omega, by go_num, rfl, rfl, rfl, by omega, H2⟩
              case measure => simp [intOf]; omega
            · have H2 := Lib.hid (show none = R by rw [if_neg (by simp), if_pos (by rw [dig_nat]; simp; omega)] at H1; exact H1)
              have h5 : (t[k].toNat : Int) < 48 := by omega
              clear H1 h46 h46'
              go_wp2
              refine bodyPost_ret (v := .tuple #[.string ⟨#[]⟩, .string ⟨#[]⟩, .bool false, .bool false]) (by simp [results, Tryz.results157, go_sem]) rfl ⟨by rw [← H2.out]; rfl, rfl⟩
          · have e46 : ((t[k].toNat : Int) == 46) = false := by simp; omega
            have h46' : ¬ t[k] = 46 := fun h => h46 (by rw [h]; rfl)
            rw [if_neg (by simp [h46'])] at H1
            by_cases h48 : t[k].toNat < 48
            · have H2 := Lib.hid (show none = R by rw [if_pos (by rw [dig_nat]; simp; omega)] at H1; exact H1)
              have h5 : (t[k].toNat : Int) < 48 := by omega
              clear H1 h46 h46'
              cases b
              · skip
                go_wp2
                refine bodyPost_ret (v := .tuple #[.string ⟨#[]⟩, .string ⟨#[]⟩, .bool false, .bool false]) (by simp [results, Tryz.results157, go_sem]) rfl ⟨by rw [← H2.out]; rfl, rfl⟩
              · skip
                go_wp2
                refine bodyPost_ret (v := .tuple #[.string ⟨#[]⟩, .string ⟨#[]⟩, .bool false, .bool false]) (by simp [results, Tryz.results157, go_sem]) rfl ⟨by rw [← H2.out]; rfl, rfl⟩
            by_cases h57 : 57 < t[k].toNat
            · have H2 := Lib.hid (show none = R by rw [if_pos (by rw [dig_nat]; simp; omega)] at H1; exact H1)
              have h5 : ¬ (t[k].toNat : Int) < 48 := by omega
              have h6 : (57 : Int) < t[k].toNat := by omega
              clear H1 h46 h46'
              cases b
              · skip
                go_wp2
                refine bodyPost_ret (v := .tuple #[.string ⟨#[]⟩, .string ⟨#[]⟩, .bool false, .bool false]) (by simp [results, Tryz.results157, go_sem]) rfl ⟨by rw [← H2.out]; rfl, rfl⟩
              · skip
                go_wp2
                refine bodyPost_ret (v := .tuple #[.string ⟨#[]⟩, .string ⟨#[]⟩, .bool false, .bool false]) (by simp [results, Tryz.results157, go_sem]) rfl ⟨by rw [← H2.out]; rfl, rfl⟩
            have h5 : ¬ (t[k].toNat : Int) < 48 := by omega
            have h6 : ¬ (57 : Int) < t[k].toNat := by omega
            rw [if_neg (by rw [dig_nat]; simp; omega)] at H1
            have z1 : P.length + 1 ≤ 9223372036854775807 := by omega
            have z2 : W.length + 1 ≤ 9223372036854775807 := by omega
            have z3 : min (k + 1) t.size - k = 1 := by omega
            clear h46 h46' h48 h57
            cases b
            · have H2 := Lib.hid (show formS (W ++ [t[k]]) P false (t.data.toList.drop (k + 1)) = R by rw [if_neg (by simp)] at H1; exact H1)
              clear H1
              go_wp2
              go_round
              case rel => exact ⟨k + 1, W ++ [t[k]], P, false, by omega, by go_num, by rw [cat_one W t k hlt], rfl, rfl, by simp; omega, H2⟩
              case measure => simp [intOf]; omega
            · have H2 := Lib.hid (show formS W (P ++ [t[k]]) true (t.data.toList.drop (k + 1)) = R by rw [if_pos rfl] at H1; exact H1)
              clear H1
              go_wp2
              go_round
              case rel => exact ⟨k + 1, W, P ++ [t[k]], true, by omega, by go_num, rfl, by rw [cat_one P t k hlt], rfl, by simp; omega, H2⟩
              case measure => simp [intOf]; omega
        · have hk2 : k = t.size := by omega
          subst hk2
          have H2 := Lib.hid (show some (W, P) = R by have := H.out; rw [List.drop_eq_nil_of_le (by simp)] at this; exact this)
          have z1 : W.length + P.length ≤ 9223372036854775807 := by omega
          clear H
          go_wp2
          refine bodyPost_ret (v := .tuple #[.string ⟨W.toArray⟩, .string ⟨P.toArray⟩, .bool false, .bool (decide (0 < W.length + P.length))]) (by simp [results, Tryz.results157, go_sem]; omega) rfl ⟨by rw [← H2.out]; rfl, rfl⟩
end Go.Proofs.YtibffdaljmmdoaaGreatDoor
/- The walk of foliantref02.Read: the number that a text reads as. -/
namespace Go.Proofs.YtibffdaljmmdoaaGreatDoor
open Go.RowKit Fo

theorem rform_long (s : ByteArray) (hs : 40 < s.size) (w : World) :
    Calls Tryz.prog 157 #[.string s] w fun e w' => e = FormOut false none ∧ w' = w := by
  go_enter Tryz.func157, Tryz.ntmps157
  go_wp2
  refine bodyPost_ret (v := .tuple #[.string ⟨#[]⟩, .string ⟨#[]⟩, .bool false, .bool false]) (by simp [results, Tryz.results157, go_sem]) rfl ⟨rfl, rfl⟩
theorem rwithin (n : Int) (w : World) : Calls Tryz.prog 158 #[.int .i64 n] w fun e w' => e = .returned (.bool (decide (-1073741824 ≤ n ∧ n ≤ 1073741824))) ∧ w' = w := by
  by_cases h1 : n < -1073741824
  · go_enter Tryz.func158, Tryz.ntmps158
    go_wp2
    go_ret
    exact ⟨ret_bool (by first | (simp; done) | (simp; omega)), rfl⟩
  · by_cases h2 : 1073741824 < n
    · go_enter Tryz.func158, Tryz.ntmps158
      go_wp2
      go_ret
      exact ⟨ret_bool (by first | (simp; done) | (simp; omega)), rfl⟩
    · go_enter Tryz.func158, Tryz.ntmps158
      go_wp2
      go_ret
      exact ⟨ret_bool (by first | (simp; done) | (simp; omega)), rfl⟩
theorem rform_some (s : ByteArray) (hs : s.size ≤ 40) (mn : Bool) (W P : L) (hmn : minus s.data.toList = mn) (hf : formS [] [] false (unsigned s.data.toList) = some (W, P)) (h0 : 0 < W.length + P.length) (w : World) :
    Calls Tryz.prog 157 #[.string s] w fun e w' => e = .returned (.tuple #[.string ⟨W.toArray⟩, .string ⟨P.toArray⟩, .bool mn, .bool true]) ∧ w' = w := by
  have := rform s hs w
  rw [hmn, hf] at this
  have e : FormOut mn (some (W, P)) = .returned (.tuple #[.string ⟨W.toArray⟩, .string ⟨P.toArray⟩, .bool mn, .bool true]) := by
    rw [FormOut, decide_eq_true h0]
  rw [e] at this
  exact this
def satV (v : Nat) (l : L) : Nat := l.foldl (fun v c => min (10 * v + (c.toNat - 48)) 1099511627776) v
def valF (v : Nat) (l : L) : Nat := l.foldl (fun v c => 10 * v + (c.toNat - 48)) v
theorem satV_val (l : L) : ∀ (v u : Nat), u = min v 1099511627776 → satV u l = min (valF v l) 1099511627776 := by
  induction l with
  | nil => intro v u h; exact h
  | cons c l ih =>
    intro v u h
    unfold satV valF at ih ⊢
    rw [List.foldl_cons, List.foldl_cons]
    exact ih _ _ (by omega)
theorem satV_le (l : L) : ∀ (v : Nat), v ≤ 1099511627776 → satV v l ≤ 1099511627776 := by
  induction l with
  | nil => intro v h; exact h
  | cons c l ih =>
    intro v h
    unfold satV at ih ⊢
    rw [List.foldl_cons]
    exact ih _ (by omega)
theorem rwithin_as (n : Int) (b : Bool) (h : decide (-1073741824 ≤ n ∧ n ≤ 1073741824) = b) (w : World) : Calls Tryz.prog 158 #[.int .i64 n] w fun e w' => e = .returned (.bool b) ∧ w' = w := by
  have := rwithin n w
  rw [h] at this
  exact this
theorem all_text (W P : L) : ((ByteArray.mk W.toArray) ++ ((ByteArray.mk P.toArray) ++ ByteArray.mk #[48, 48, 48, 48]).extract 0 4).data.toList = W ++ part4 P := by
  simp [part4, List.extract_eq_take_drop]
/-- Is the fraction's rest rounded up? -/
def moreB (mn : Bool) (r : L) : Bool := if mn then overHalf r else atHalf r
set_option maxRecDepth 100000 in
set_option maxHeartbeats 2000000 in
theorem rfix_ok (s : ByteArray) (hs : s.size ≤ 40) (mn : Bool) (W P : L) (hmn : minus s.data.toList = mn) (hf : formS [] [] false (unsigned s.data.toList) = some (W, P)) (hWP : W.length + P.length ≤ 40) (h0 : 0 < W.length + P.length)
    (hd : (W ++ part4 P).all isDig = true) (hdp : P.all isDig = true) (w : World) (V : Nat) (hV : valF 0 (W ++ part4 P) = V) :
    Calls Tryz.prog 143 #[.string s] w fun e w' => e = WholeOut (if 1073741824 < (if moreB mn (P.drop 4) then V + 1 else V) then .bad 2 else .good (if mn then -((if moreB mn (P.drop 4) then V + 1 else V : Nat) : Int) else (if moreB mn (P.drop 4) then V + 1 else V : Nat))) ∧ w' = w := by
  obtain ⟨T, hT⟩ : ∃ T, (if 1073741824 < (if moreB mn (P.drop 4) then V + 1 else V) then Res.bad 2 else .good (if mn then -((if moreB mn (P.drop 4) then V + 1 else V : Nat) : Int) else (if moreB mn (P.drop 4) then V + 1 else V : Nat))) = T := ⟨_, rfl⟩
  rw [hT]
  have HT := Lib.hid hT
  clear hT
  have HF := Lib.hid (fun w => rform_some s hs mn W P hmn hf h0 w)
  have y1 : P.length + 4 ≤ 9223372036854775807 := by omega
  have y2 : W.length + 4 ≤ 9223372036854775807 := by omega
  have y3 : min 4 (P.length + 4) = 4 := by omega
  have y4 : (4 : Int) ≤ (P.length : Int) + 4 := by omega
  have y5 : 4 ≤ P.length + 4 := by omega
  have HD := Lib.hid hd
  have HDP := Lib.hid hdp
  have HV := Lib.hid hV
  clear hmn hf h0 hd hdp hV
  go_enter Tryz.func143, Tryz.ntmps143
  go_wp2_with fail
  refine (HF.out _).mono ?_
  rintro e w1 ⟨rfl, rfl⟩
  go_wp2
  obtain ⟨A, hA⟩ : ∃ A, (ByteArray.mk W.toArray) ++ ((ByteArray.mk P.toArray) ++ ByteArray.mk #[48, 48, 48, 48]).extract 0 4 = A := ⟨_, rfl⟩
  have hAl := all_text W P
  rw [hA] at hAl
  rw [hA]
  have hAs : A.size ≤ 44 := by
    have h1 : A.data.toList.length = A.size := rfl
    rw [hAl] at h1
    simp [part4] at h1
    omega
  have HS := Lib.hid (show satV 0 (A.data.toList.drop 0) = min V 1099511627776 by rw [List.drop_zero, hAl, satV_val _ 0 0 rfl, HV.out])
  have HDA := Lib.hid (show A.data.toList.all isDig = true by rw [hAl]; exact HD.out)
  clear hA hAl HD y1 y2 y3 y4 y5
  go_loop [8, 10] (fun n i => ∃ (k v : Nat), k ≤ A.size ∧ v ≤ 1099511627776 ∧ i = .int .i64 k ∧ n = .int .i64 v ∧ Hid (satV v (A.data.toList.drop k) = min V 1099511627776)) (fun _ i => A.size - (intOf i).toNat)
  case atStart => exact ⟨0, 0, Nat.zero_le _, by omega, rfl, rfl, HS⟩
  case round =>
    obtain ⟨k, v, hk, hv, rfl, rfl, H⟩ := hrel
    clear HS
    by_cases hlt : k < A.size
    · have H1 := H.out
      rw [drop_get A k hlt] at H1
      unfold satV at H1
      rw [List.foldl_cons] at H1
      have hc : isDig A[k] = true := by
        have := HDA.out
        rw [List.all_eq_true] at this
        exact this A[k] (List.mem_of_mem_drop (i := k) (by rw [drop_get A k hlt]; simp))
      rw [dig_nat] at hc
      simp only [decide_eq_true_eq] at hc
      obtain ⟨hc1, hc2⟩ := hc
      obtain ⟨c, hcc⟩ : ∃ c, A[k].toNat = c := ⟨_, rfl⟩
      rw [hcc] at H1 hc1 hc2
      have hci : ((A[k].toNat : Nat) : Int) = c := by rw [hcc]
      have H2 := Lib.hid H1
      clear H1 H hcc
      by_cases hm : 10 * v + (c - 48) ≤ 1099511627776
      · have hm2 : 10 * (v : Int) + (c - 48) ≤ 1099511627776 := by omega
        go_wp2
        go_round
        case rel => exact ⟨k + 1, 10 * v + (c - 48), by omega, by omega, by go_num, (by congr 1; omega), Lib.hid (by have := H2.out; rw [Nat.min_eq_left hm] at this; exact this)⟩
        case measure => simp [intOf]; omega
      · have hm2 : ¬ 10 * (v : Int) + (c - 48) ≤ 1099511627776 := by omega
        go_wp2
        go_round
        case rel => exact ⟨k + 1, 1099511627776, by omega, by omega, by go_num, (by congr 1; omega), Lib.hid (by have := H2.out; rw [Nat.min_eq_right (by omega)] at this; exact this)⟩
        case measure => simp [intOf]; omega
    · have hvV : v = min V 1099511627776 := by have := H.out; rw [List.drop_eq_nil_of_le (by simp; omega)] at this; exact this
      have HvV := Lib.hid hvV
      clear H hvV HDA
      by_cases h4 : 4 < P.length
      · have y1 : (4 : Int) < P.length := by omega
        have y2 : (4 : Int) ≤ P.length := by omega
        have y3 : 4 ≤ P.length := by omega
        go_upto_region 13 with fail
        obtain ⟨r, hr⟩ : ∃ r, (ByteArray.mk P.toArray).extract 4 P.length = r := ⟨_, rfl⟩
        have hrl : r.data.toList = P.drop 4 := by rw [← hr]; exact Lib.extract_to_end ⟨P.toArray⟩ 4
        rw [hr]
        have hrs : 0 < r.size := by
          have h1 : r.data.toList.length = r.size := rfl
          rw [hrl, List.length_drop] at h1; omega
        have hr40 : r.size ≤ 40 := by
          have h1 : r.data.toList.length = r.size := rfl
          rw [hrl, List.length_drop] at h1; omega
        have hne : r.toList.isEmpty = false := by
          rw [Lib.toList_data, List.isEmpty_eq_false_iff]
          intro h; have : r.data.toList.length = r.size := rfl; rw [h] at this; simp at this; omega
        have HDR := Lib.hid (show r.data.toList.all isDig = true by
          have := HDP.out
          rw [hrl, List.all_eq_true]; rw [List.all_eq_true] at this
          exact fun x hx => this x (List.mem_of_mem_drop hx))
        have hcons : P.drop 4 = r[0] :: r.data.toList.drop 1 := by
          have := drop_get r 0 hrs
          rw [List.drop_zero] at this
          rw [← hrl]; exact this
        have HCN := Lib.hid hcons
        clear hr hrl hcons y1 y2 y3
        by_cases h53 : r[0].toNat < 53
        · have q1 : ¬ (53 : Int) ≤ r[0].toNat := by omega
          have hc53 : ¬ (53 : UInt8) ≤ r[0] := by rw [UInt8.le_iff_toNat_le]; show ¬ 53 ≤ r[0].toNat; omega
          cases mn
          · have MB := Lib.hid (show moreB false (P.drop 4) = false by rw [HCN.out]; simpa [moreB, atHalf] using hc53)
            clear hc53 h53
            by_cases hbig : 1073741824 < V
            · have hv2 := HvV.out
              have HWI := Lib.hid (fun W => rwithin_as ((v : Int)) false (by first | (simp; done) | (simp; omega)) W)
              have HO := Lib.hid (show T = .bad 2 by rw [← HT.out, MB.out]; simp; omega)
              clear hv2
              go_wp2_with fail
              refine (HWI.out _).mono ?_
              rintro e w2 ⟨rfl, rfl⟩
              go_wp2
              refine bodyPost_ret (v := .tuple #[.int .i64 0, .int .i64 2]) (by simp [results, Tryz.results143, go_sem]) rfl ⟨by rw [HO.out]; rfl, rfl⟩
            · have hv2 := HvV.out
              have HWI := Lib.hid (fun W => rwithin_as ((v : Int)) true (by first | (simp; done) | (simp; omega)) W)
              have HO := Lib.hid (show T = .good ((v : Int)) by rw [← HT.out, MB.out]; simp; first | omega | (rw [if_neg (by omega)]; congr 1; omega))
              clear hv2
              go_wp2_with fail
              refine (HWI.out _).mono ?_
              rintro e w2 ⟨rfl, rfl⟩
              go_wp2
              refine bodyPost_ret (v := .tuple #[.int .i64 ((v : Int)), .int .i64 0]) (by simp [results, Tryz.results143, go_sem]) rfl ⟨by rw [HO.out]; rfl, rfl⟩
          · have MB := Lib.hid (show moreB true (P.drop 4) = false by
              rw [HCN.out]
              have g1 : ¬ (53 : UInt8) < r[0] := by rw [UInt8.lt_iff_toNat_lt]; show ¬ 53 < r[0].toNat; omega
              have g2 : ¬ r[0] = 53 := by intro h; rw [h] at h53; revert h53; decide
              simp [moreB, overHalf, g1, g2])
            clear hc53 h53
            by_cases hbig : 1073741824 < V
            · have hv2 := HvV.out
              have HWI := Lib.hid (fun W => rwithin_as (-(v : Int)) false (by first | (simp; done) | (simp; omega)) W)
              have HO := Lib.hid (show T = .bad 2 by rw [← HT.out, MB.out]; simp; omega)
              clear hv2
              go_wp2_with fail
              refine (HWI.out _).mono ?_
              rintro e w2 ⟨rfl, rfl⟩
              go_wp2
              refine bodyPost_ret (v := .tuple #[.int .i64 0, .int .i64 2]) (by simp [results, Tryz.results143, go_sem]) rfl ⟨by rw [HO.out]; rfl, rfl⟩
            · have hv2 := HvV.out
              have HWI := Lib.hid (fun W => rwithin_as (-(v : Int)) true (by first | (simp; done) | (simp; omega)) W)
              have HO := Lib.hid (show T = .good (-(v : Int)) by rw [← HT.out, MB.out]; simp; first | omega | (rw [if_neg (by omega)]; congr 1; omega))
              clear hv2
              go_wp2_with fail
              refine (HWI.out _).mono ?_
              rintro e w2 ⟨rfl, rfl⟩
              go_wp2
              refine bodyPost_ret (v := .tuple #[.int .i64 (-(v : Int)), .int .i64 0]) (by simp [results, Tryz.results143, go_sem]) rfl ⟨by rw [HO.out]; rfl, rfl⟩
        · have q1 : (53 : Int) ≤ r[0].toNat := by omega
          have hc53 : (53 : UInt8) ≤ r[0] := by rw [UInt8.le_iff_toNat_le]; show 53 ≤ r[0].toNat; omega
          cases mn
          · have MB := Lib.hid (show moreB false (P.drop 4) = true by rw [HCN.out]; simpa [moreB, atHalf] using hc53)
            clear hc53 h53
            by_cases hbig : 1073741824 < (V + 1)
            · have hv2 := HvV.out
              have HWI := Lib.hid (fun W => rwithin_as ((v : Int) + 1) false (by first | (simp; done) | (simp; omega)) W)
              have HO := Lib.hid (show T = .bad 2 by rw [← HT.out, MB.out]; simp; omega)
              clear hv2
              go_wp2_with fail
              refine (HWI.out _).mono ?_
              rintro e w2 ⟨rfl, rfl⟩
              go_wp2
              refine bodyPost_ret (v := .tuple #[.int .i64 0, .int .i64 2]) (by simp [results, Tryz.results143, go_sem]) rfl ⟨by rw [HO.out]; rfl, rfl⟩
            · have hv2 := HvV.out
              have HWI := Lib.hid (fun W => rwithin_as ((v : Int) + 1) true (by first | (simp; done) | (simp; omega)) W)
              have HO := Lib.hid (show T = .good ((v : Int) + 1) by rw [← HT.out, MB.out]; simp; first | omega | (rw [if_neg (by omega)]; congr 1; omega))
              clear hv2
              go_wp2_with fail
              refine (HWI.out _).mono ?_
              rintro e w2 ⟨rfl, rfl⟩
              go_wp2
              refine bodyPost_ret (v := .tuple #[.int .i64 ((v : Int) + 1), .int .i64 0]) (by simp [results, Tryz.results143, go_sem]) rfl ⟨by rw [HO.out]; rfl, rfl⟩
          · obtain ⟨M, hM⟩ : ∃ M, moreB true (P.drop 4) = M := ⟨_, rfl⟩
            have MBH := Lib.hid hM
            rw [HCN.out] at hM
            by_cases h54 : 53 < r[0].toNat
            · have q2 : (53 : Int) < r[0].toNat := by omega
              have HM := Lib.hid (show (true || (r.data.toList.drop 1).any (· != 48)) = M by
                have g1 : (53 : UInt8) < r[0] := by rw [UInt8.lt_iff_toNat_lt]; show 53 < r[0].toNat; omega
                rw [← hM]; simp [moreB, overHalf, g1])
              clear hM hc53 h53 h54
              go_wp2
              go_loop [13, 14] (fun sm i => ∃ (k : Nat) (b : Bool), 1 ≤ k ∧ k ≤ r.size ∧ i = .int .i64 k ∧ sm = .bool b ∧ Hid ((b || (r.data.toList.drop k).any (· != 48)) = M)) (fun _ i => r.size - (intOf i).toNat)
              case atStart => exact ⟨1, true, Nat.le_refl _, by omega, rfl, rfl, HM⟩
              case round =>
                obtain ⟨j, b, hj1, hj, rfl, rfl, H⟩ := hrel
                clear HM
                by_cases hlt2 : j < r.size
                · have H1 := H.out
                  rw [drop_get r j hlt2, List.any_cons] at H1
                  have hdj : 48 ≤ r[j].toNat := by
                    have := HDR.out
                    rw [List.all_eq_true] at this
                    have := this r[j] (List.mem_of_mem_drop (i := j) (by rw [drop_get r j hlt2]; simp))
                    rw [dig_nat] at this; simp at this; omega
                  cases b
                  · by_cases h48 : 48 < r[j].toNat
                    · have H2 := Lib.hid (show (true || (r.data.toList.drop (j + 1)).any (· != 48)) = M by
                        have : (r[j] != 48) = true := by simp; intro h; rw [h] at h48; revert h48; decide
                        rw [this] at H1; simpa using H1)
                      have q1 : (48 : Int) < r[j].toNat := by omega
                      clear H1 H h48 hdj
                      go_wp2
                      go_round
                      case rel => exact ⟨j + 1, true, by omega, by omega, by go_num, rfl, H2⟩
                      case measure => simp [intOf]; omega
                    · have H2 := Lib.hid (show (false || (r.data.toList.drop (j + 1)).any (· != 48)) = M by
                        have : (r[j] != 48) = false := by simp; exact UInt8.toNat.inj (by show r[j].toNat = 48; omega)
                        rw [this] at H1; simpa using H1)
                      have q1 : ¬ (48 : Int) < r[j].toNat := by omega
                      clear H1 H h48 hdj
                      go_wp2
                      go_round
                      case rel => exact ⟨j + 1, false, by omega, by omega, by go_num, rfl, H2⟩
                      case measure => simp [intOf]; omega
                  · have H2 := Lib.hid (show (true || (r.data.toList.drop (j + 1)).any (· != 48)) = M by simpa using H1)
                    clear H1 H hdj
                    go_wp2
                    go_round
                    case rel => exact ⟨j + 1, true, by omega, by omega, by go_num, rfl, H2⟩
                    case measure => simp [intOf]; omega
                · have hM : b = M := by have := H.out; rw [List.drop_eq_nil_of_le (by simp; omega)] at this; simpa using this
                  subst hM
                  clear H
                  cases b
                  · have MB := Lib.hid MBH.out
                    by_cases hbig : 1073741824 < V
                    · have hv2 := HvV.out
                      have HWI := Lib.hid (fun W => rwithin_as (-(v : Int)) false (by first | (simp; done) | (simp; omega)) W)
                      have HO := Lib.hid (show T = .bad 2 by rw [← HT.out, MB.out]; simp; omega)
                      clear hv2
                      go_wp2_with fail
                      refine (HWI.out _).mono ?_
                      rintro e w2 ⟨rfl, rfl⟩
                      go_wp2
                      refine bodyPost_ret (v := .tuple #[.int .i64 0, .int .i64 2]) (by simp [results, Tryz.results143, go_sem]) rfl ⟨by rw [HO.out]; rfl, rfl⟩
                    · have hv2 := HvV.out
                      have HWI := Lib.hid (fun W => rwithin_as (-(v : Int)) true (by first | (simp; done) | (simp; omega)) W)
                      have HO := Lib.hid (show T = .good (-(v : Int)) by rw [← HT.out, MB.out]; simp; first | omega | (rw [if_neg (by omega)]; congr 1; omega))
                      clear hv2
                      go_wp2_with fail
                      refine (HWI.out _).mono ?_
                      rintro e w2 ⟨rfl, rfl⟩
                      go_wp2
                      refine bodyPost_ret (v := .tuple #[.int .i64 (-(v : Int)), .int .i64 0]) (by simp [results, Tryz.results143, go_sem]) rfl ⟨by rw [HO.out]; rfl, rfl⟩
                  · have MB := Lib.hid MBH.out
                    by_cases hbig : 1073741824 < (V + 1)
                    · have hv2 := HvV.out
                      have HWI := Lib.hid (fun W => rwithin_as (-((v : Int) + 1)) false (by first | (simp; done) | (simp; omega)) W)
                      have HO := Lib.hid (show T = .bad 2 by rw [← HT.out, MB.out]; simp; omega)
                      clear hv2
                      go_wp2_with fail
                      refine (HWI.out _).mono ?_
                      rintro e w2 ⟨rfl, rfl⟩
                      go_wp2
                      refine bodyPost_ret (v := .tuple #[.int .i64 0, .int .i64 2]) (by simp [results, Tryz.results143, go_sem]) rfl ⟨by rw [HO.out]; rfl, rfl⟩
                    · have hv2 := HvV.out
                      have HWI := Lib.hid (fun W => rwithin_as (-((v : Int) + 1)) true (by first | (simp; done) | (simp; omega)) W)
                      have HO := Lib.hid (show T = .good (-((v : Int) + 1)) by rw [← HT.out, MB.out]; simp; first | omega | (rw [if_neg (by omega)]; congr 1; omega))
                      clear hv2
                      go_wp2_with fail
                      refine (HWI.out _).mono ?_
                      rintro e w2 ⟨rfl, rfl⟩
                      go_wp2
                      refine bodyPost_ret (v := .tuple #[.int .i64 (-((v : Int) + 1)), .int .i64 0]) (by simp [results, Tryz.results143, go_sem]) rfl ⟨by rw [HO.out]; rfl, rfl⟩
            · have q2 : ¬ (53 : Int) < r[0].toNat := by omega
              have HM := Lib.hid (show (false || (r.data.toList.drop 1).any (· != 48)) = M by
                have g1 : ¬ (53 : UInt8) < r[0] := by rw [UInt8.lt_iff_toNat_lt]; show ¬ 53 < r[0].toNat; omega
                have g2 : r[0] = 53 := UInt8.toNat.inj (by show r[0].toNat = 53; omega)
                rw [← hM]; simp [moreB, overHalf, g2])
              clear hM hc53 h53 h54
              go_wp2
              go_loop [13, 14] (fun sm i => ∃ (k : Nat) (b : Bool), 1 ≤ k ∧ k ≤ r.size ∧ i = .int .i64 k ∧ sm = .bool b ∧ Hid ((b || (r.data.toList.drop k).any (· != 48)) = M)) (fun _ i => r.size - (intOf i).toNat)
              case atStart => exact ⟨1, false, Nat.le_refl _, by omega, rfl, rfl, HM⟩
              case round =>
                obtain ⟨j, b, hj1, hj, rfl, rfl, H⟩ := hrel
                clear HM
                by_cases hlt2 : j < r.size
                · have H1 := H.out
                  rw [drop_get r j hlt2, List.any_cons] at H1
                  have hdj : 48 ≤ r[j].toNat := by
                    have := HDR.out
                    rw [List.all_eq_true] at this
                    have := this r[j] (List.mem_of_mem_drop (i := j) (by rw [drop_get r j hlt2]; simp))
                    rw [dig_nat] at this; simp at this; omega
                  cases b
                  · by_cases h48 : 48 < r[j].toNat
                    · have H2 := Lib.hid (show (true || (r.data.toList.drop (j + 1)).any (· != 48)) = M by
                        have : (r[j] != 48) = true := by simp; intro h; rw [h] at h48; revert h48; decide
                        rw [this] at H1; simpa using H1)
                      have q1 : (48 : Int) < r[j].toNat := by omega
                      clear H1 H h48 hdj
                      go_wp2
                      go_round
                      case rel => exact ⟨j + 1, true, by omega, by omega, by go_num, rfl, H2⟩
                      case measure => simp [intOf]; omega
                    · have H2 := Lib.hid (show (false || (r.data.toList.drop (j + 1)).any (· != 48)) = M by
                        have : (r[j] != 48) = false := by simp; exact UInt8.toNat.inj (by show r[j].toNat = 48; omega)
                        rw [this] at H1; simpa using H1)
                      have q1 : ¬ (48 : Int) < r[j].toNat := by omega
                      clear H1 H h48 hdj
                      go_wp2
                      go_round
                      case rel => exact ⟨j + 1, false, by omega, by omega, by go_num, rfl, H2⟩
                      case measure => simp [intOf]; omega
                  · have H2 := Lib.hid (show (true || (r.data.toList.drop (j + 1)).any (· != 48)) = M by simpa using H1)
                    clear H1 H hdj
                    go_wp2
                    go_round
                    case rel => exact ⟨j + 1, true, by omega, by omega, by go_num, rfl, H2⟩
                    case measure => simp [intOf]; omega
                · have hM : b = M := by have := H.out; rw [List.drop_eq_nil_of_le (by simp; omega)] at this; simpa using this
                  subst hM
                  clear H
                  cases b
                  · have MB := Lib.hid MBH.out
                    by_cases hbig : 1073741824 < V
                    · have hv2 := HvV.out
                      have HWI := Lib.hid (fun W => rwithin_as (-(v : Int)) false (by first | (simp; done) | (simp; omega)) W)
                      have HO := Lib.hid (show T = .bad 2 by rw [← HT.out, MB.out]; simp; omega)
                      clear hv2
                      go_wp2_with fail
                      refine (HWI.out _).mono ?_
                      rintro e w2 ⟨rfl, rfl⟩
                      go_wp2
                      refine bodyPost_ret (v := .tuple #[.int .i64 0, .int .i64 2]) (by simp [results, Tryz.results143, go_sem]) rfl ⟨by rw [HO.out]; rfl, rfl⟩
                    · have hv2 := HvV.out
                      have HWI := Lib.hid (fun W => rwithin_as (-(v : Int)) true (by first | (simp; done) | (simp; omega)) W)
                      have HO := Lib.hid (show T = .good (-(v : Int)) by rw [← HT.out, MB.out]; simp; first | omega | (rw [if_neg (by omega)]; congr 1; omega))
                      clear hv2
                      go_wp2_with fail
                      refine (HWI.out _).mono ?_
                      rintro e w2 ⟨rfl, rfl⟩
                      go_wp2
                      refine bodyPost_ret (v := .tuple #[.int .i64 (-(v : Int)), .int .i64 0]) (by simp [results, Tryz.results143, go_sem]) rfl ⟨by rw [HO.out]; rfl, rfl⟩
                  · have MB := Lib.hid MBH.out
                    by_cases hbig : 1073741824 < (V + 1)
                    · have hv2 := HvV.out
                      have HWI := Lib.hid (fun W => rwithin_as (-((v : Int) + 1)) false (by first | (simp; done) | (simp; omega)) W)
                      have HO := Lib.hid (show T = .bad 2 by rw [← HT.out, MB.out]; simp; omega)
                      clear hv2
                      go_wp2_with fail
                      refine (HWI.out _).mono ?_
                      rintro e w2 ⟨rfl, rfl⟩
                      go_wp2
                      refine bodyPost_ret (v := .tuple #[.int .i64 0, .int .i64 2]) (by simp [results, Tryz.results143, go_sem]) rfl ⟨by rw [HO.out]; rfl, rfl⟩
                    · have hv2 := HvV.out
                      have HWI := Lib.hid (fun W => rwithin_as (-((v : Int) + 1)) true (by first | (simp; done) | (simp; omega)) W)
                      have HO := Lib.hid (show T = .good (-((v : Int) + 1)) by rw [← HT.out, MB.out]; simp; first | omega | (rw [if_neg (by omega)]; congr 1; omega))
                      clear hv2
                      go_wp2_with fail
                      refine (HWI.out _).mono ?_
                      rintro e w2 ⟨rfl, rfl⟩
                      go_wp2
                      refine bodyPost_ret (v := .tuple #[.int .i64 (-((v : Int) + 1)), .int .i64 0]) (by simp [results, Tryz.results143, go_sem]) rfl ⟨by rw [HO.out]; rfl, rfl⟩
      · have y1 : ¬ (4 : Int) < P.length := by omega
        have HN := Lib.hid (show P.drop 4 = [] from List.drop_eq_nil_of_le (by omega))
        clear h4
        cases mn
        · have MB := Lib.hid (show moreB false (P.drop 4) = false by rw [HN.out]; rfl)
          by_cases hbig : 1073741824 < V
          · have hv2 := HvV.out
            have HWI := Lib.hid (fun W => rwithin_as ((v : Int)) false (by first | (simp; done) | (simp; omega)) W)
            have HO := Lib.hid (show T = .bad 2 by rw [← HT.out, MB.out]; simp; omega)
            clear hv2
            go_wp2_with fail
            refine (HWI.out _).mono ?_
            rintro e w2 ⟨rfl, rfl⟩
            go_wp2
            refine bodyPost_ret (v := .tuple #[.int .i64 0, .int .i64 2]) (by simp [results, Tryz.results143, go_sem]) rfl ⟨by rw [HO.out]; rfl, rfl⟩
          · have hv2 := HvV.out
            have HWI := Lib.hid (fun W => rwithin_as ((v : Int)) true (by first | (simp; done) | (simp; omega)) W)
            have HO := Lib.hid (show T = .good ((v : Int)) by rw [← HT.out, MB.out]; simp; first | omega | (rw [if_neg (by omega)]; congr 1; omega))
            clear hv2
            go_wp2_with fail
            refine (HWI.out _).mono ?_
            rintro e w2 ⟨rfl, rfl⟩
            go_wp2
            refine bodyPost_ret (v := .tuple #[.int .i64 ((v : Int)), .int .i64 0]) (by simp [results, Tryz.results143, go_sem]) rfl ⟨by rw [HO.out]; rfl, rfl⟩
        · have MB := Lib.hid (show moreB true (P.drop 4) = false by rw [HN.out]; rfl)
          by_cases hbig : 1073741824 < V
          · have hv2 := HvV.out
            have HWI := Lib.hid (fun W => rwithin_as (-(v : Int)) false (by first | (simp; done) | (simp; omega)) W)
            have HO := Lib.hid (show T = .bad 2 by rw [← HT.out, MB.out]; simp; omega)
            clear hv2
            go_wp2_with fail
            refine (HWI.out _).mono ?_
            rintro e w2 ⟨rfl, rfl⟩
            go_wp2
            refine bodyPost_ret (v := .tuple #[.int .i64 0, .int .i64 2]) (by simp [results, Tryz.results143, go_sem]) rfl ⟨by rw [HO.out]; rfl, rfl⟩
          · have hv2 := HvV.out
            have HWI := Lib.hid (fun W => rwithin_as (-(v : Int)) true (by first | (simp; done) | (simp; omega)) W)
            have HO := Lib.hid (show T = .good (-(v : Int)) by rw [← HT.out, MB.out]; simp; first | omega | (rw [if_neg (by omega)]; congr 1; omega))
            clear hv2
            go_wp2_with fail
            refine (HWI.out _).mono ?_
            rintro e w2 ⟨rfl, rfl⟩
            go_wp2
            refine bodyPost_ret (v := .tuple #[.int .i64 (-(v : Int)), .int .i64 0]) (by simp [results, Tryz.results143, go_sem]) rfl ⟨by rw [HO.out]; rfl, rfl⟩
theorem rfread_bad (s : ByteArray) (mn : Bool) (R : Option (L × L)) (hf : ∀ w, Calls Tryz.prog 157 #[.string s] w fun e w' => e = FormOut mn R ∧ w' = w) (hR : R = none ∨ R = some ([], [])) (w : World) :
    Calls Tryz.prog 143 #[.string s] w fun e w' => e = WholeOut (.bad 3) ∧ w' = w := by
  have HF := Lib.hid hf
  clear hf
  rcases hR with rfl | rfl
  · unfold FormOut at HF
    go_enter Tryz.func143, Tryz.ntmps143
    go_wp2_with fail
    refine (HF.out _).mono ?_
    rintro e w1 ⟨rfl, rfl⟩
    go_wp2
    refine bodyPost_ret (v := .tuple #[.int .i64 0, .int .i64 3]) (by simp [results, Tryz.results143, go_sem]) rfl ⟨rfl, rfl⟩
  · have e1 : FormOut mn (some ([], [])) = .returned (.tuple #[.string ⟨#[]⟩, .string ⟨#[]⟩, .bool mn, .bool false]) := rfl
    rw [e1] at HF
    clear e1
    go_enter Tryz.func143, Tryz.ntmps143
    go_wp2_with fail
    refine (HF.out _).mono ?_
    rintro e w1 ⟨rfl, rfl⟩
    go_wp2
    refine bodyPost_ret (v := .tuple #[.int .i64 0, .int .i64 3]) (by simp [results, Tryz.results143, go_sem]) rfl ⟨rfl, rfl⟩
theorem unsigned_len (l : L) : (unsigned l).length ≤ l.length := by
  cases l with
  | nil => simp [unsigned]
  | cons c l => rw [unsigned]; split <;> simp
theorem dot_len (l : L) : (preDot l).length + (postDot l).length ≤ l.length := by
  have := congrArg List.length (List.takeWhile_append_dropWhile (p := fun c : UInt8 => c != 46) (l := l))
  rw [List.length_append] at this
  unfold preDot postDot
  rw [List.length_drop]
  omega
theorem part4_dig {l : L} (h : l.all isDig = true) : (part4 l).all isDig = true := by
  unfold part4
  rw [List.all_eq_true]
  intro x hx
  have hx := List.mem_of_mem_take hx
  rw [List.mem_append] at hx
  rcases hx with hx | hx
  · exact List.all_eq_true.1 h x hx
  · simp at hx; subst hx; rfl
theorem rread (s : ByteArray) (w : World) : Calls Tryz.prog 143 #[.string s] w fun e w' => e = WholeOut (fixV s.data.toList) ∧ w' = w := by
  have hl : s.data.toList.length = s.size := rfl
  by_cases hs : s.size ≤ 40
  · have hform := fun w => rform s hs w
    rw [formS_pre, List.nil_append, List.nil_append] at hform
    unfold fixV
    rw [if_neg (by omega)]
    cases hd : (allDig (preDot (unsigned s.data.toList)) && allDig (postDot (unsigned s.data.toList)))
    · rw [hd, if_neg (by simp)] at hform
      have hd2 : (!allDig (preDot (unsigned s.data.toList)) || !allDig (postDot (unsigned s.data.toList))) = true := by
        revert hd; cases allDig (preDot (unsigned s.data.toList)) <;> cases allDig (postDot (unsigned s.data.toList)) <;> simp
      have := rfread_bad s _ none hform (.inl rfl) w
      split
      · exact this
      · first | exact this | (rw [if_pos hd2]; exact this)
    · rw [hd, if_pos rfl] at hform
      have hd2 : (!allDig (preDot (unsigned s.data.toList)) || !allDig (postDot (unsigned s.data.toList))) = false := by
        revert hd; cases allDig (preDot (unsigned s.data.toList)) <;> cases allDig (postDot (unsigned s.data.toList)) <;> simp
      rw [Bool.and_eq_true] at hd
      have hlen := dot_len (unsigned s.data.toList)
      have hul := unsigned_len s.data.toList
      by_cases he : (preDot (unsigned s.data.toList) ++ postDot (unsigned s.data.toList)).isEmpty = true
      · rw [if_pos he]
        have h0 := List.isEmpty_iff.1 he
        rw [List.append_eq_nil_iff] at h0
        rw [h0.1, h0.2] at hform
        exact rfread_bad s _ _ hform (.inr rfl) w
      · rw [if_neg he, hd2, if_neg (by simp)]
        have h0 : 0 < (preDot (unsigned s.data.toList)).length + (postDot (unsigned s.data.toList)).length := by
          rcases Nat.eq_zero_or_pos ((preDot (unsigned s.data.toList)).length + (postDot (unsigned s.data.toList)).length) with h | h
          · exact absurd (by rw [List.isEmpty_iff, List.append_eq_nil_iff]; exact ⟨List.eq_nil_of_length_eq_zero (by omega), List.eq_nil_of_length_eq_zero (by omega)⟩) he
          · exact h
        have hf : formS [] [] false (unsigned s.data.toList) = some (preDot (unsigned s.data.toList), postDot (unsigned s.data.toList)) := by
          rw [formS_pre, hd.1, hd.2]; rfl
        have := rfix_ok s hs (minus s.data.toList) _ _ rfl hf (by omega) h0 (by rw [List.all_append, Bool.and_eq_true]; exact ⟨hd.1, part4_dig hd.2⟩) hd.2 w _ rfl
        exact this
  · have := rfread_bad s _ _ (fun w => rform_long s (by omega) w) (.inl rfl) w
    unfold fixV
    rw [if_pos (by omega)]
    exact this
end Go.Proofs.YtibffdaljmmdoaaGreatDoor
/- The walks of foliantref03.long and foliantref03.word: the token of a run. -/
namespace Go.Proofs.YtibffdaljmmdoaaGreatDoor
open Go.RowKit Fo

def WordOut (R : Res Tok) (e : Ending) : Prop :=
  match R with
  | .bad k => ∃ kd n : Int, e = .returned (.tuple #[.agg #[.int .i64 kd, .int .i64 0, .int .i64 0, .int .i64 n, .string ⟨#[]⟩], .int .i64 k])
  | .good t => e = .returned (.tuple #[.agg #[.int .i64 t.kind, .int .i64 0, .int .i64 0, .int .i64 t.n, .string ⟨t.s.toArray⟩], .int .i64 0])
theorem fixV_codes {l : L} {k : Int} (h : fixV l = .bad k) : k = 2 ∨ k = 3 := by
  unfold fixV at h
  dsimp only at h
  repeat' split at h
  all_goals first | (cases h; exact .inl rfl) | (cases h; exact .inr rfl) | (cases h; done)
theorem five_at {w : World} {b : Nat} {t : TypeId} {v0 v1 v2 v3 v4 : Value} (h : w.heap[b]? = some (.cells #[v0, v1, v2, v3, v4] t (0, 0))) :
    w.cell? ⟨b, 0, none⟩ = some v0 ∧ w.cell? ⟨b, 1, none⟩ = some v1 ∧ w.cell? ⟨b, 2, none⟩ = some v2 ∧ w.cell? ⟨b, 3, none⟩ = some v3 ∧ w.cell? ⟨b, 4, none⟩ = some v4 ∧ ∀ o, w.frozen? ⟨b, o, none⟩ = false := by
  simp [World.cell?, World.frozen?, h]
theorem new_at (w : World) (o : Go.Obj) : (w.alloc o).heap[w.heap.size]? = some o := by
  show (w.heap.push o)[w.heap.size]? = some o
  simp
theorem str_self (s : ByteArray) : (⟨s.data.toList.toArray⟩ : ByteArray) = s := by cases s; simp
set_option maxRecDepth 100000 in
set_option maxHeartbeats 1000000 in
theorem rlong_bad (s : ByteArray) (hs : s.size ≤ 140737488355327) (hi : isInt s.data.toList = false) (w : World) :
    Calls Tryz.prog 139 #[.string s] w fun e w' => e = .returned (.tuple #[.agg #[.int .i64 0, .int .i64 0, .int .i64 0, .int .i64 0, .string ⟨#[]⟩], .int .i64 5]) ∧ Below w.heap.size w w' := by
  have HI := Lib.hid (fun w => rinteger s hs w)
  rw [hi] at HI
  clear hi
  go_enter Tryz.func139, Tryz.ntmps139
  go_wp2_with fail
  refine (HI.out _).mono ?_
  rintro e w2 ⟨rfl, rfl⟩
  go_wp2
  refine bodyPost_ret (v := .tuple #[.agg #[.int .i64 0, .int .i64 0, .int .i64 0, .int .i64 0, .string ⟨#[]⟩], .int .i64 5]) (by simp [results, Tryz.results139, go_sem]) rfl ⟨?_, (by repeat' (first | (with_reducible first | exact Below.refl _ _ | refine Below.drew ?_ | refine belowDrewN ?_ _ | refine belowIter ?_ ?_ _ _ | refine Below.setCell ?_ ?_ _ | refine Below.alloc ?_ ?_ _ | refine bT hb4 ?_ ?_ | refine bT hb3 ?_ ?_ | refine bT hb2 ?_ ?_ | refine bT hb1 ?_ ?_ | refine bT hbr ?_ ?_ | refine bT hb ?_ ?_) | (simp; done) | (simp; omega) | omega))⟩
  rfl
set_option maxRecDepth 100000 in
set_option maxHeartbeats 1000000 in
theorem rlong_int (s : ByteArray) (hs : s.size ≤ 140737488355327) (hi : isInt s.data.toList = true) (n k : Int) (hw : WholeOut (wholeV s.data.toList) = .returned (.tuple #[.int .i64 n, .int .i64 k])) (w : World) :
    Calls Tryz.prog 139 #[.string s] w fun e w' => e = .returned (.tuple #[.agg #[.int .i64 1, .int .i64 0, .int .i64 0, .int .i64 n, .string ⟨#[]⟩], .int .i64 k]) ∧ Below w.heap.size w w' := by
  have HI := Lib.hid (fun w => rinteger s hs w)
  have HW := Lib.hid (fun w => rwhole s hs hi w)
  rw [hi] at HI
  rw [hw] at HW
  clear hi hw
  go_enter Tryz.func139, Tryz.ntmps139
  go_wp2_with fail
  refine (HI.out _).mono ?_
  rintro e w2 ⟨rfl, rfl⟩
  go_wp2_with fail
  refine (HW.out _).mono ?_
  rintro e w2 ⟨rfl, rfl⟩
  go_wp2
  refine bodyPost_ret (v := .tuple #[.agg #[.int .i64 1, .int .i64 0, .int .i64 0, .int .i64 n, .string ⟨#[]⟩], .int .i64 k]) (by simp [results, Tryz.results139, go_sem]) rfl ⟨?_, (by repeat' (first | (with_reducible first | exact Below.refl _ _ | refine Below.drew ?_ | refine belowDrewN ?_ _ | refine belowIter ?_ ?_ _ _ | refine Below.setCell ?_ ?_ _ | refine Below.alloc ?_ ?_ _ | refine bT hb4 ?_ ?_ | refine bT hb3 ?_ ?_ | refine bT hb2 ?_ ?_ | refine bT hb1 ?_ ?_ | refine bT hbr ?_ ?_ | refine bT hb ?_ ?_) | (simp; done) | (simp; omega) | omega))⟩
  rfl
set_option maxRecDepth 100000 in
set_option maxHeartbeats 1000000 in
theorem rword (s : ByteArray) (hs : s.size ≤ 140737488355327) (w : World) :
    Calls Tryz.prog 112 #[.string s] w fun e w' => WordOut (wordT s.data.toList) e ∧ Below w.heap.size w w' := by
  have hl : s.data.toList.length = s.size := rfl
  have HI := Lib.hid (fun w => rinteger s hs w)
  cases hi : isInt s.data.toList
  · rw [hi] at HI
    by_cases h508 : 508 < s.size
    · have HG := Lib.hid (fun w => rlong_bad s hs hi w)
      have HO := Lib.hid (show wordT s.data.toList = .bad 5 by
        unfold wordT told
        rw [hi]
        have hx : fixV s.data.toList = .bad 3 := by unfold fixV; rw [if_pos (by omega)]
        rw [hx]
        simp; omega)
      clear hi hl
      go_enter Tryz.func112, Tryz.ntmps112
      go_wp2_with fail
      refine (HG.out _).mono ?_
      rintro e w2 ⟨rfl, hb2⟩
      obtain ⟨d0, d1, d2, d3, d4, df⟩ := five_at ((hb2.block _ (by simp)).trans (new_at w _))
      go_wp2
      refine bodyPost_ret (v := .tuple #[.agg #[.int .i64 0, .int .i64 0, .int .i64 0, .int .i64 0, .string ⟨#[]⟩], .int .i64 5]) (by simp [results, Tryz.results112, go_sem, d0, d1, d2, d3, d4, df]) rfl ⟨?_, (by repeat' (first | (with_reducible first | exact Below.refl _ _ | refine Below.drew ?_ | refine belowDrewN ?_ _ | refine belowIter ?_ ?_ _ _ | refine Below.setCell ?_ ?_ _ | refine Below.alloc ?_ ?_ _ | refine bT hb4 ?_ ?_ | refine bT hb3 ?_ ?_ | refine bT hb2 ?_ ?_ | refine bT hb1 ?_ ?_ | refine bT hbr ?_ ?_ | refine bT hb ?_ ?_) | (simp; done) | (simp; omega) | omega))⟩
      rw [HO.out]
      exact ⟨_, _, rfl⟩
    · have HP := Lib.hid (fun w => rpoint s hs w)
      cases hp : s.data.toList.contains 46
      · rw [hp] at HP
        by_cases h127 : 127 < s.size
        · have HO := Lib.hid (show wordT s.data.toList = .bad 5 by unfold wordT told; rw [hi, hp]; simp; omega)
          clear hi hp hl
          go_enter Tryz.func112, Tryz.ntmps112
          go_wp2_with fail
          refine (HI.out _).mono ?_
          rintro e w2 ⟨rfl, rfl⟩
          go_wp2_with fail
          refine (HP.out _).mono ?_
          rintro e w2 ⟨rfl, rfl⟩
          go_wp2
          refine bodyPost_ret (v := .tuple #[.agg #[.int .i64 0, .int .i64 0, .int .i64 0, .int .i64 0, .string ⟨#[]⟩], .int .i64 5]) (by simp [results, Tryz.results112, go_sem]) rfl ⟨?_, (by repeat' (first | (with_reducible first | exact Below.refl _ _ | refine Below.drew ?_ | refine belowDrewN ?_ _ | refine belowIter ?_ ?_ _ _ | refine Below.setCell ?_ ?_ _ | refine Below.alloc ?_ ?_ _ | refine bT hb4 ?_ ?_ | refine bT hb3 ?_ ?_ | refine bT hb2 ?_ ?_ | refine bT hb1 ?_ ?_ | refine bT hbr ?_ ?_ | refine bT hb ?_ ?_) | (simp; done) | (simp; omega) | omega))⟩
          rw [HO.out]
          exact ⟨_, _, rfl⟩
        · have HO := Lib.hid (show wordT s.data.toList = .good ⟨5, s.size, 0, s.data.toList⟩ by unfold wordT told; rw [hi, hp]; simp; omega)
          clear hi hp hl
          go_enter Tryz.func112, Tryz.ntmps112
          go_wp2_with fail
          refine (HI.out _).mono ?_
          rintro e w2 ⟨rfl, rfl⟩
          go_wp2_with fail
          refine (HP.out _).mono ?_
          rintro e w2 ⟨rfl, rfl⟩
          go_wp2
          refine bodyPost_ret (v := .tuple #[.agg #[.int .i64 5, .int .i64 0, .int .i64 0, .int .i64 0, .string s], .int .i64 0]) (by simp [results, Tryz.results112, go_sem]) rfl ⟨?_, (by repeat' (first | (with_reducible first | exact Below.refl _ _ | refine Below.drew ?_ | refine belowDrewN ?_ _ | refine belowIter ?_ ?_ _ _ | refine Below.setCell ?_ ?_ _ | refine Below.alloc ?_ ?_ _ | refine bT hb4 ?_ ?_ | refine bT hb3 ?_ ?_ | refine bT hb2 ?_ ?_ | refine bT hb1 ?_ ?_ | refine bT hbr ?_ ?_ | refine bT hb ?_ ?_) | (simp; done) | (simp; omega) | omega))⟩
          rw [HO.out, WordOut, str_self]
      · have HR := Lib.hid (fun w => rread s w)
        rw [hp] at HP
        cases hx : fixV s.data.toList with
        | good n =>
          rw [hx] at HR
          unfold WholeOut at HR
          have HO := Lib.hid (show wordT s.data.toList = .good ⟨2, s.size, n, []⟩ by unfold wordT; rw [hi, hp, hx]; rfl)
          clear hi hp hl hx
          go_enter Tryz.func112, Tryz.ntmps112
          go_wp2_with fail
          refine (HI.out _).mono ?_
          rintro e w2 ⟨rfl, rfl⟩
          go_wp2_with fail
          refine (HP.out _).mono ?_
          rintro e w2 ⟨rfl, rfl⟩
          go_wp2_with fail
          refine (HR.out _).mono ?_
          rintro e w2 ⟨rfl, rfl⟩
          go_wp2
          refine bodyPost_ret (v := .tuple #[.agg #[.int .i64 2, .int .i64 0, .int .i64 0, .int .i64 n, .string ⟨#[]⟩], .int .i64 0]) (by simp [results, Tryz.results112, go_sem]) rfl ⟨?_, (by repeat' (first | (with_reducible first | exact Below.refl _ _ | refine Below.drew ?_ | refine belowDrewN ?_ _ | refine belowIter ?_ ?_ _ _ | refine Below.setCell ?_ ?_ _ | refine Below.alloc ?_ ?_ _ | refine bT hb4 ?_ ?_ | refine bT hb3 ?_ ?_ | refine bT hb2 ?_ ?_ | refine bT hb1 ?_ ?_ | refine bT hbr ?_ ?_ | refine bT hb ?_ ?_) | (simp; done) | (simp; omega) | omega))⟩
          rw [HO.out]
          rfl
        | bad k =>
          rw [hx] at HR
          unfold WholeOut at HR
          rcases fixV_codes hx with rfl | rfl
          · have HO := Lib.hid (show wordT s.data.toList = .bad 2 by unfold wordT; rw [hi, hp, hx]; rfl)
            clear hi hp hl hx
            go_enter Tryz.func112, Tryz.ntmps112
            go_wp2_with fail
            refine (HI.out _).mono ?_
            rintro e w2 ⟨rfl, rfl⟩
            go_wp2_with fail
            refine (HP.out _).mono ?_
            rintro e w2 ⟨rfl, rfl⟩
            go_wp2_with fail
            refine (HR.out _).mono ?_
            rintro e w2 ⟨rfl, rfl⟩
            go_wp2
            refine bodyPost_ret (v := .tuple #[.agg #[.int .i64 2, .int .i64 0, .int .i64 0, .int .i64 0, .string ⟨#[]⟩], .int .i64 2]) (by simp [results, Tryz.results112, go_sem]) rfl ⟨?_, (by repeat' (first | (with_reducible first | exact Below.refl _ _ | refine Below.drew ?_ | refine belowDrewN ?_ _ | refine belowIter ?_ ?_ _ _ | refine Below.setCell ?_ ?_ _ | refine Below.alloc ?_ ?_ _ | refine bT hb4 ?_ ?_ | refine bT hb3 ?_ ?_ | refine bT hb2 ?_ ?_ | refine bT hb1 ?_ ?_ | refine bT hbr ?_ ?_ | refine bT hb ?_ ?_) | (simp; done) | (simp; omega) | omega))⟩
            rw [HO.out]
            exact ⟨_, _, rfl⟩
          · by_cases h127 : 127 < s.size
            · have HO := Lib.hid (show wordT s.data.toList = .bad 5 by unfold wordT told; rw [hi, hp, hx]; simp; omega)
              clear hi hp hl hx
              go_enter Tryz.func112, Tryz.ntmps112
              go_wp2_with fail
              refine (HI.out _).mono ?_
              rintro e w2 ⟨rfl, rfl⟩
              go_wp2_with fail
              refine (HP.out _).mono ?_
              rintro e w2 ⟨rfl, rfl⟩
              go_wp2_with fail
              refine (HR.out _).mono ?_
              rintro e w2 ⟨rfl, rfl⟩
              go_wp2
              refine bodyPost_ret (v := .tuple #[.agg #[.int .i64 0, .int .i64 0, .int .i64 0, .int .i64 0, .string ⟨#[]⟩], .int .i64 5]) (by simp [results, Tryz.results112, go_sem]) rfl ⟨?_, (by repeat' (first | (with_reducible first | exact Below.refl _ _ | refine Below.drew ?_ | refine belowDrewN ?_ _ | refine belowIter ?_ ?_ _ _ | refine Below.setCell ?_ ?_ _ | refine Below.alloc ?_ ?_ _ | refine bT hb4 ?_ ?_ | refine bT hb3 ?_ ?_ | refine bT hb2 ?_ ?_ | refine bT hb1 ?_ ?_ | refine bT hbr ?_ ?_ | refine bT hb ?_ ?_) | (simp; done) | (simp; omega) | omega))⟩
              rw [HO.out]
              exact ⟨_, _, rfl⟩
            · have HO := Lib.hid (show wordT s.data.toList = .good ⟨5, s.size, 0, s.data.toList⟩ by unfold wordT told; rw [hi, hp, hx]; simp; omega)
              clear hi hp hl hx
              go_enter Tryz.func112, Tryz.ntmps112
              go_wp2_with fail
              refine (HI.out _).mono ?_
              rintro e w2 ⟨rfl, rfl⟩
              go_wp2_with fail
              refine (HP.out _).mono ?_
              rintro e w2 ⟨rfl, rfl⟩
              go_wp2_with fail
              refine (HR.out _).mono ?_
              rintro e w2 ⟨rfl, rfl⟩
              go_wp2
              refine bodyPost_ret (v := .tuple #[.agg #[.int .i64 5, .int .i64 0, .int .i64 0, .int .i64 0, .string s], .int .i64 0]) (by simp [results, Tryz.results112, go_sem]) rfl ⟨?_, (by repeat' (first | (with_reducible first | exact Below.refl _ _ | refine Below.drew ?_ | refine belowDrewN ?_ _ | refine belowIter ?_ ?_ _ _ | refine Below.setCell ?_ ?_ _ | refine Below.alloc ?_ ?_ _ | refine bT hb4 ?_ ?_ | refine bT hb3 ?_ ?_ | refine bT hb2 ?_ ?_ | refine bT hb1 ?_ ?_ | refine bT hbr ?_ ?_ | refine bT hb ?_ ?_) | (simp; done) | (simp; omega) | omega))⟩
              rw [HO.out, WordOut, str_self]
  · rw [hi] at HI
    obtain ⟨n, k, hw, hO⟩ : ∃ n k : Int, WholeOut (wholeV s.data.toList) = .returned (.tuple #[.int .i64 n, .int .i64 k]) ∧ WordOut (wordT s.data.toList) (.returned (.tuple #[.agg #[.int .i64 1, .int .i64 0, .int .i64 0, .int .i64 n, .string ⟨#[]⟩], .int .i64 k])) := by
      unfold wordT
      rw [if_pos hi]
      cases hv : wholeV s.data.toList with
      | bad k => exact ⟨0, k, rfl, _, _, rfl⟩
      | good n => exact ⟨n, 0, rfl, rfl⟩
    have HO := Lib.hid hO
    by_cases h508 : 508 < s.size
    · have HG := Lib.hid (fun w => rlong_int s hs hi n k hw w)
      clear hi hl hO hw
      go_enter Tryz.func112, Tryz.ntmps112
      go_wp2_with fail
      refine (HG.out _).mono ?_
      rintro e w2 ⟨rfl, hb2⟩
      obtain ⟨d0, d1, d2, d3, d4, df⟩ := five_at ((hb2.block _ (by simp)).trans (new_at w _))
      go_wp2
      refine bodyPost_ret (v := .tuple #[.agg #[.int .i64 1, .int .i64 0, .int .i64 0, .int .i64 n, .string ⟨#[]⟩], .int .i64 k]) (by simp [results, Tryz.results112, go_sem, d0, d1, d2, d3, d4, df]) rfl ⟨?_, (by repeat' (first | (with_reducible first | exact Below.refl _ _ | refine Below.drew ?_ | refine belowDrewN ?_ _ | refine belowIter ?_ ?_ _ _ | refine Below.setCell ?_ ?_ _ | refine Below.alloc ?_ ?_ _ | refine bT hb4 ?_ ?_ | refine bT hb3 ?_ ?_ | refine bT hb2 ?_ ?_ | refine bT hb1 ?_ ?_ | refine bT hbr ?_ ?_ | refine bT hb ?_ ?_) | (simp; done) | (simp; omega) | omega))⟩
      exact HO.out
    · have HW := Lib.hid (fun w => rwhole s hs hi w)
      rw [hw] at HW
      clear hi hl hO hw
      go_enter Tryz.func112, Tryz.ntmps112
      go_wp2_with fail
      refine (HI.out _).mono ?_
      rintro e w2 ⟨rfl, rfl⟩
      go_wp2_with fail
      refine (HW.out _).mono ?_
      rintro e w2 ⟨rfl, rfl⟩
      go_wp2
      refine bodyPost_ret (v := .tuple #[.agg #[.int .i64 1, .int .i64 0, .int .i64 0, .int .i64 n, .string ⟨#[]⟩], .int .i64 k]) (by simp [results, Tryz.results112, go_sem]) rfl ⟨?_, (by repeat' (first | (with_reducible first | exact Below.refl _ _ | refine Below.drew ?_ | refine belowDrewN ?_ _ | refine belowIter ?_ ?_ _ _ | refine Below.setCell ?_ ?_ _ | refine Below.alloc ?_ ?_ _ | refine bT hb4 ?_ ?_ | refine bT hb3 ?_ ?_ | refine bT hb2 ?_ ?_ | refine bT hb1 ?_ ?_ | refine bT hbr ?_ ?_ | refine bT hb ?_ ?_) | (simp; done) | (simp; omega) | omega))⟩
      exact HO.out
end Go.Proofs.YtibffdaljmmdoaaGreatDoor
/- The walk of foliantref03.name. -/
namespace Go.Proofs.YtibffdaljmmdoaaGreatDoor
open Go.RowKit Fo

def NameOut : Res L → Value
  | .bad e => .tuple #[.string ⟨#[]⟩, .int .i64 e]
  | .good x => if 127 < x.length then .tuple #[.string ⟨#[]⟩, .int .i64 5] else .tuple #[.string ⟨x.toArray⟩, .int .i64 0]
theorem digit_ge (c : Nat) : -1 ≤ digit c := by unfold digit; repeat' split <;> omega
set_option maxRecDepth 100000 in
set_option maxHeartbeats 400000 in
theorem rname (s : ByteArray) (hs : s.size ≤ 140737488355327) (w : World) :
    Calls Tryz.prog 109 #[.string s] w fun e w' => e = .returned (NameOut (nameS [] 0 s.data.toList)) ∧ Below w.heap.size w w' := by
  have hc0 : cutL s 0 s.size = s.data.toList := by
    simp only [cutL, List.drop_zero, Nat.sub_zero]
    exact List.take_of_length_le (Nat.le_refl _)
  obtain ⟨T, hT⟩ : ∃ T, nameS [] 0 (cutL s 0 s.size) = T := ⟨_, rfl⟩
  rw [← hc0, hT]
  have HT := Lib.hid hT
  clear hT hc0
  go_enter Tryz.func109, Tryz.ntmps109
  go_wp2
  go_loopw [4, 5] (fun v i wr => ∃ (k : Nat) (acc : L), k ≤ s.size ∧ i = .int .i64 k ∧ ownB wr w.heap.size v acc ∧ acc.length ≤ k ∧ Below w.heap.size w wr ∧ Hid (nameS acc 0 (cutL s k s.size) = T)) (fun _ i _ => s.size - (intOf i).toNat)
  case atStart => exact ⟨0, [], by omega, by go_num, ownB_nil _ _, by simp, Below.refl _ _, HT⟩
  case round =>
    obtain ⟨k, acc, hk2, rfl, hown, hacc, hbr, H⟩ := hrel
    have hBr : w.heap.size ≤ wr.heap.size := hbr.size
    clear HT
    by_cases hlt : k < s.size
    · by_cases h35 : s[k] = 35
      · have t35 : ((s[k].toNat : Int) == 35) = true := eq_yes (n := 35) (by decide) h35
        by_cases h2 : s.size ≤ k + 2
        · have HX := Lib.hid (H.out.symm.trans (nameS_short hlt (by omega) h35 h2))
          clear h35 H
          have q1 : (s.size : Int) ≤ (k : Int) + 2 := by omega
          go_wp2
          refine bodyPost_ret (v := .tuple #[.string ⟨#[]⟩, .int .i64 3]) (by simp [results, Tryz.results109, go_sem]) rfl ⟨by rw [HX.out]; rfl, (by repeat' (first | (with_reducible first | exact Below.refl _ _ | refine Below.drew ?_ | refine belowDrewN ?_ _ | refine belowIter ?_ ?_ _ _ | refine Below.setCell ?_ ?_ _ | refine Below.alloc ?_ ?_ _ | refine bT hb4 ?_ ?_ | refine bT hb3 ?_ ?_ | refine bT hb2 ?_ ?_ | refine bT hb1 ?_ ?_ | refine bT hbr ?_ ?_ | refine bT hb ?_ ?_) | (simp; done) | (simp; omega) | omega))⟩
        · have h3 : k + 2 < s.size := by omega
          have q1 : ¬ (s.size : Int) ≤ (k : Int) + 2 := by omega
          have D1 := Lib.hid (fun W => rdigit s[k + 1] W)
          have D2 := Lib.hid (fun W => rdigit s[k + 2] W)
          obtain ⟨u1, hu1⟩ : ∃ u, hexv s[k + 1] = u := ⟨_, rfl⟩
          obtain ⟨u2, hu2⟩ : ∃ u, hexv s[k + 2] = u := ⟨_, rfl⟩
          have U := Lib.hid (And.intro hu1 hu2)
          have hv2 : -1 ≤ u1 ∧ u1 < 16 := by rw [← hu1]; exact ⟨digit_ge _, digit_lt _⟩
          have hv3 : -1 ≤ u2 ∧ u2 < 16 := by rw [← hu2]; exact ⟨digit_ge _, digit_lt _⟩
          rw [hu1] at D1
          rw [hu2] at D2
          have H35 := Lib.hid h35
          clear hu1 hu2 h35
          go_wp2
          have r1 : (0 : Int) ≤ (k : Int) + 1 := by omega
          have r2 : (0 : Int) ≤ (k : Int) + 2 := by omega
          have r3 : ((k : Int) + 1).toNat = k + 1 := by omega
          have r4 : ((k : Int) + 2).toNat = k + 2 := by omega
          have r5 : k + 1 < s.size := by omega
          have r6 : (k : Int) + 1 < s.size := by omega
          have r7 : (k : Int) + 2 < s.size := by omega
          have b8 : -9223372036854775808 ≤ (k : Int) + 1 ∧ (k : Int) + 1 ≤ 9223372036854775807 := ⟨by omega, by omega⟩
          have b9 : -9223372036854775808 ≤ (k : Int) + 2 ∧ (k : Int) + 2 ≤ 9223372036854775807 := ⟨by omega, by omega⟩
          have r8 := IntWalk.i64_in _ b8
          have r9 := IntWalk.i64_in _ b9
          clear b8 b9
          go_quiet ((go_at_call 136; first | (with_reducible exact Calls.quiet_of_same (D1.out _)) | (with_reducible exact Calls.quiet_of_same (D2.out _))))
          clear r8 r9
          by_cases hn1 : u1 < 0
          · have HX := Lib.hid (H.out.symm.trans (nameS_bad h3 (by omega) H35.out (.inl (by rw [U.out.1]; exact hn1))))
            clear H
            go_wp2
            refine bodyPost_ret (v := .tuple #[.string ⟨#[]⟩, .int .i64 3]) (by simp [results, Tryz.results109, go_sem]) rfl ⟨by rw [HX.out]; rfl, (by repeat' (first | (with_reducible first | exact Below.refl _ _ | refine Below.drew ?_ | refine belowDrewN ?_ _ | refine belowIter ?_ ?_ _ _ | refine Below.setCell ?_ ?_ _ | refine Below.alloc ?_ ?_ _ | refine bT hb4 ?_ ?_ | refine bT hb3 ?_ ?_ | refine bT hb2 ?_ ?_ | refine bT hb1 ?_ ?_ | refine bT hbr ?_ ?_ | refine bT hb ?_ ?_) | (simp; done) | (simp; omega) | omega))⟩
          by_cases hn2 : u2 < 0
          · have HX := Lib.hid (H.out.symm.trans (nameS_bad h3 (by omega) H35.out (.inr (.inl (by rw [U.out.2]; exact hn2)))))
            clear H
            go_wp2
            refine bodyPost_ret (v := .tuple #[.string ⟨#[]⟩, .int .i64 3]) (by simp [results, Tryz.results109, go_sem]) rfl ⟨by rw [HX.out]; rfl, (by repeat' (first | (with_reducible first | exact Below.refl _ _ | refine Below.drew ?_ | refine belowDrewN ?_ _ | refine belowIter ?_ ?_ _ _ | refine Below.setCell ?_ ?_ _ | refine Below.alloc ?_ ?_ _ | refine bT hb4 ?_ ?_ | refine bT hb3 ?_ ?_ | refine bT hb2 ?_ ?_ | refine bT hb1 ?_ ?_ | refine bT hbr ?_ ?_ | refine bT hb ?_ ?_) | (simp; done) | (simp; omega) | omega))⟩
          by_cases hn3 : (16 : Int) * u1 + u2 = 0
          · have HX := Lib.hid (H.out.symm.trans (nameS_bad h3 (by omega) H35.out (.inr (.inr (by rw [U.out.1, U.out.2]; exact hn3)))))
            have z1 : ((16 : Int) * u1 + u2 == 0) = true := by simpa using hn3
            clear H hn3
            go_wp2
            refine bodyPost_ret (v := .tuple #[.string ⟨#[]⟩, .int .i64 3]) (by simp [results, Tryz.results109, go_sem]) rfl ⟨by rw [HX.out]; rfl, (by repeat' (first | (with_reducible first | exact Below.refl _ _ | refine Below.drew ?_ | refine belowDrewN ?_ _ | refine belowIter ?_ ?_ _ _ | refine Below.setCell ?_ ?_ _ | refine Below.alloc ?_ ?_ _ | refine bT hb4 ?_ ?_ | refine bT hb3 ?_ ?_ | refine bT hb2 ?_ ?_ | refine bT hb1 ?_ ?_ | refine bT hbr ?_ ?_ | refine bT hb ?_ ?_) | (simp; done) | (simp; omega) | omega))⟩
          · have z1 : ((16 : Int) * u1 + u2 == 0) = false := by simpa using hn3
            have HX := Lib.hid (H.out.symm.trans (nameS_hex h3 (by omega) H35.out (by rw [U.out.1, U.out.2]; omega)))
            rw [U.out.1, U.out.2] at HX
            have hcn : (UInt8.ofNat ((16 : Int) * u1 + u2).toNat).toNat = ((16 : Int) * u1 + u2).toNat := by simp; omega
            obtain ⟨c, hcc⟩ : ∃ c, UInt8.ofNat ((16 : Int) * u1 + u2).toNat = c := ⟨_, rfl⟩
            rw [hcc] at HX hcn
            have hci : (16 : Int) * u1 + u2 = (c.toNat : Int) := by omega
            have z2 : ((c.toNat : Int) == 0) = false := by rw [← hci]; exact z1
            clear z1
            clear H hn3 hcc hcn
            go_wp2_with (at_builtin; go_must (refine append1 rfl _ _ rfl w.heap.size _ acc _ (ownB_below hown (belowDrewN (Below.refl _ _) _)) rfl rfl (by omega) (belowDrewN hbr nq).size (by omega) (by have := UInt8.toNat_lt c; omega) ?_); intro v3 w3 hown3 hb3 hz3; replace hb3 := (belowDrewN hbr nq).trans hb3)
            go_roundw
            case rel => exact ⟨k + 3, acc ++ [c], by omega, by go_num, by simpa using hown3, by simp; omega, hb3, HX.out.symm⟩
            case measure => simp [intOf]; omega
      · have t35 : ((s[k].toNat : Int) == 35) = false := eq_no (n := 35) (by decide) h35
        have HX := Lib.hid (H.out.symm.trans ((congrArg _ (cutL_cons s k _ hlt (by omega))).trans (nameS_plain h35)))
        clear h35 H
        go_wp2_with (at_builtin; go_must (refine append1 rfl _ _ rfl w.heap.size _ acc _ hown rfl rfl (by omega) hBr (by omega) (by have := UInt8.toNat_lt s[k]; omega) ?_); intro v3 w3 hown3 hb3 hz3; replace hb3 := hbr.trans hb3)
        go_roundw
        case rel => exact ⟨k + 1, acc ++ [s[k]], by omega, by go_num, by simpa using hown3, by simp; omega, hb3, HX.out.symm⟩
        case measure => simp [intOf]; omega
    · have hk : k = s.size := by omega
      have hres : T = .good acc := by have := H.out; rw [hk, cutL_nil, nameS_end] at this; exact this.symm
      have HX := Lib.hid hres
      obtain ⟨p, cv, rfl⟩ := ownB_slice hown
      have hcv := convB hown
      clear H hk hres
      by_cases h127 : 127 < acc.length
      · go_wp2
        refine bodyPost_ret (v := .tuple #[.string ⟨#[]⟩, .int .i64 5]) (by simp [results, Tryz.results109, go_sem]) rfl ⟨by rw [HX.out, NameOut, if_pos h127], (by repeat' (first | (with_reducible first | exact Below.refl _ _ | refine Below.drew ?_ | refine belowDrewN ?_ _ | refine belowIter ?_ ?_ _ _ | refine Below.setCell ?_ ?_ _ | refine Below.alloc ?_ ?_ _ | refine bT hb4 ?_ ?_ | refine bT hb3 ?_ ?_ | refine bT hb2 ?_ ?_ | refine bT hb1 ?_ ?_ | refine bT hbr ?_ ?_ | refine bT hb ?_ ?_) | (simp; done) | (simp; omega) | omega))⟩
      · go_wp2
        refine bodyPost_ret (v := .tuple #[.string ⟨acc.toArray⟩, .int .i64 0]) (by simp [results, Tryz.results109, go_sem]) rfl ⟨by rw [HX.out, NameOut, if_neg h127], (by repeat' (first | (with_reducible first | exact Below.refl _ _ | refine Below.drew ?_ | refine belowDrewN ?_ _ | refine belowIter ?_ ?_ _ _ | refine Below.setCell ?_ ?_ _ | refine Below.alloc ?_ ?_ _ | refine bT hb4 ?_ ?_ | refine bT hb3 ?_ ?_ | refine bT hb2 ?_ ?_ | refine bT hb1 ?_ ?_ | refine bT hbr ?_ ?_ | refine bT hb ?_ ?_) | (simp; done) | (simp; omega) | omega))⟩
end Go.Proofs.YtibffdaljmmdoaaGreatDoor
/- Plain Lean: a hexadecimal string read in two steps (its digits gathered, then paired) is what hexS reads. -/
namespace Go.Proofs.YtibffdaljmmdoaaGreatDoor
open Go.RowKit Fo

def hexG : L → Nat → L → Res (L × Nat)
  | _, _, [] => .bad 4
  | acc, n, c :: l => if c == 62 then .good (acc, n + 1) else if 0 ≤ hexv c then hexG (acc ++ [c]) (n + 1) l else if white c then hexG acc (n + 1) l else .bad 3
def pairs : L → L
  | [] => []
  | [a] => [UInt8.ofNat (16 * hexv a).toNat]
  | a :: b :: l => UInt8.ofNat (16 * hexv a + hexv b).toNat :: pairs l
def pairR : Res (L × Nat) → Res (L × Nat)
  | .bad e => .bad e
  | .good (d, n) => .good (pairs d, n)
theorem dig_not_white (c : UInt8) (h : 0 ≤ hexv c) : white c = false := by
  have := u8_all (fun c => !(decide (0 ≤ hexv c)) || !white c) (by decide +kernel) c
  simpa [h] using this
theorem pairs_one : ∀ (l : L) (a : UInt8), l.length % 2 = 0 → pairs (l ++ [a]) = pairs l ++ [UInt8.ofNat (16 * hexv a).toNat]
  | [], _, _ => rfl
  | [_], _, h => by simp at h
  | x :: y :: l, a, h => by
    have := pairs_one l a (by simp at h; omega)
    simp only [List.cons_append, pairs]
    rw [this]
theorem pairs_two : ∀ (l : L) (a b : UInt8), l.length % 2 = 0 → pairs (l ++ [a, b]) = pairs l ++ [UInt8.ofNat (16 * hexv a + hexv b).toNat]
  | [], _, _, _ => rfl
  | [_], _, _, h => by simp at h
  | x :: y :: l, a, b, h => by
    have := pairs_two l a b (by simp at h; omega)
    simp only [List.cons_append, pairs]
    rw [this]
theorem pairs_odd : ∀ (l : L), l.length % 2 = 1 → pairs (l ++ [48]) = pairs l
  | [], h => by simp at h
  | [a], _ => by
    have : hexv 48 = 0 := by decide
    simp [pairs, this]
  | x :: y :: l, h => by
    have := pairs_odd l (by simp at h; omega)
    simp only [List.cons_append, pairs]
    rw [this]
theorem hex_two (l : L) : ∀ (acc : L) (n : Nat), acc.length % 2 = 0 →
    hexS (pairs acc) n (-1) l = pairR (hexG acc n l) ∧ ∀ d, 0 ≤ hexv d → hexS (pairs acc) n (hexv d) l = pairR (hexG (acc ++ [d]) n l) := by
  induction l with
  | nil => intro acc n h; exact ⟨rfl, fun _ _ => rfl⟩
  | cons c l ih =>
    intro acc n h
    by_cases h62 : c = 62
    · subst h62
      refine ⟨by simp [hexS, hexG, pairR], fun d hd => ?_⟩
      simp only [hexS, hexG, pairR, beq_self_eq_true, if_true, if_pos hd]
      rw [pairs_one acc d h]
    · have e62 : (c == 62) = false := by simpa using h62
      by_cases hc : 0 ≤ hexv c
      · have hw := dig_not_white c hc
        have hn : ¬ hexv c < 0 := by omega
        refine ⟨?_, fun d hd => ?_⟩
        · simp only [hexS, hexG, e62, hw, Bool.false_eq_true, if_false, if_neg hn, if_pos hc, if_pos (show (-1 : Int) < 0 by omega)]
          exact (ih acc (n + 1) h).2 c hc
        · simp only [hexS, hexG, e62, hw, Bool.false_eq_true, if_false, if_neg hn, if_pos hc, if_neg (show ¬ hexv d < 0 by omega)]
          rw [← pairs_two acc d c h, List.append_assoc]
          exact (ih (acc ++ [d, c]) (n + 1) (by simp; omega)).1
      · have hn : hexv c < 0 := by omega
        cases hw : white c
        · refine ⟨?_, fun d hd => ?_⟩ <;> simp [hexS, hexG, e62, hw, hn, hc, pairR]
        · refine ⟨?_, fun d hd => ?_⟩
          · simp only [hexS, hexG, e62, hw, Bool.false_eq_true, if_false, if_true, if_neg hc]
            exact (ih acc (n + 1) h).1
          · simp only [hexS, hexG, e62, hw, Bool.false_eq_true, if_false, if_true, if_neg hc]
            exact (ih acc (n + 1) h).2 d hd
end Go.Proofs.YtibffdaljmmdoaaGreatDoor
/- The walk of foliantref01.Unhex at digits, an even number of them. -/
namespace Go.Proofs.YtibffdaljmmdoaaGreatDoor
open Go.RowKit Fo

set_option maxRecDepth 100000 in
set_option maxHeartbeats 400000 in
theorem runhex (s : ByteArray) (hs : s.size ≤ 140737488355327) (he : s.size % 2 = 0) (hd : ∀ c ∈ s.data.toList, 0 ≤ hexv c) (w : World) :
    Calls Tryz.prog 138 #[.string s] w fun e w' => e = .returned (.tuple #[.string ⟨(pairs s.data.toList).toArray⟩, .int .i64 0]) ∧ Below w.heap.size w w' := by
  obtain ⟨T, hT⟩ : ∃ T, pairs s.data.toList = T := ⟨_, rfl⟩
  rw [hT]
  have HT := Lib.hid (show [] ++ pairs (s.data.toList.drop 0) = T from hT)
  have HD := Lib.hid hd
  have e0 : ((s.size : Int) % 2 == 0) = true := by simp; omega
  have e1 : ((s.size : Int) % 2 != 0) = false := by simp; omega
  clear hT hd
  go_enter Tryz.func138, Tryz.ntmps138
  go_wp2
  go_loopw [4, 5] (fun v i wr => ∃ (k : Nat) (acc : L), k ≤ s.size ∧ k % 2 = 0 ∧ i = .int .i64 k ∧ ownB wr w.heap.size v acc ∧ acc.length ≤ k ∧ Below w.heap.size w wr ∧ Hid (acc ++ pairs (s.data.toList.drop k) = T)) (fun _ i _ => s.size - (intOf i).toNat)
  case atStart => exact ⟨0, [], by omega, rfl, by go_num, ownB_nil _ _, by simp, Below.refl _ _, HT⟩
  case round =>
    obtain ⟨k, acc, hk2, hke, rfl, hown, hacc, hbr, H⟩ := hrel
    have hBr : w.heap.size ≤ wr.heap.size := hbr.size
    clear HT
    by_cases hlt : k < s.size
    · have h3 : k + 1 < s.size := by omega
      have D1 := Lib.hid (fun W => rdigit s[k] W)
      have D2 := Lib.hid (fun W => rdigit s[k + 1] W)
      have g1 : 0 ≤ hexv s[k] := HD.out _ (List.mem_of_mem_drop (i := k) (by rw [drop_get s k hlt]; simp))
      have g2 : 0 ≤ hexv s[k + 1] := HD.out _ (List.mem_of_mem_drop (i := k + 1) (by rw [drop_get s (k + 1) h3]; simp))
      have H1 := H.out
      rw [drop_get s k hlt, drop_get s (k + 1) h3, pairs] at H1
      obtain ⟨u1, hu1⟩ : ∃ u, hexv s[k] = u := ⟨_, rfl⟩
      obtain ⟨u2, hu2⟩ : ∃ u, hexv s[k + 1] = u := ⟨_, rfl⟩
      have hv2 : u1 < 16 := by rw [← hu1]; exact digit_lt _
      have hv3 : u2 < 16 := by rw [← hu2]; exact digit_lt _
      rw [hu1] at D1 g1 H1
      rw [hu2] at D2 g2 H1
      have hcn : (UInt8.ofNat ((16 : Int) * u1 + u2).toNat).toNat = ((16 : Int) * u1 + u2).toNat := by simp; omega
      obtain ⟨c, hcc⟩ : ∃ c, UInt8.ofNat ((16 : Int) * u1 + u2).toNat = c := ⟨_, rfl⟩
      rw [hcc] at H1 hcn
      have hci0 : (16 : Int) * u1 + u2 = (c.toNat : Int) := by omega
      have HCI := Lib.hid hci0
      have HX := Lib.hid (show (acc ++ [c]) ++ pairs (s.data.toList.drop (k + 2)) = T by rw [← H1]; simp)
      have hn1 : ¬ u1 < 0 := by omega
      have hn2 : ¬ u2 < 0 := by omega
      clear hu1 hu2 H H1 hcc hcn hci0
      go_wp2
      have r1 : (0 : Int) ≤ (k : Int) + 1 := by omega
      have r3 : ((k : Int) + 1).toNat = k + 1 := by omega
      have r6 : (k : Int) + 1 < s.size := by omega
      have r8 := IntWalk.i64_in ((k : Int) + 1) ⟨by omega, by omega⟩
      go_quiet ((go_at_call 136; first | (with_reducible exact Calls.quiet_of_same (D1.out _)) | (with_reducible exact Calls.quiet_of_same (D2.out _))))
      clear r8
      have hci := HCI.out
      go_wp2_with (at_builtin; go_must (refine append1 rfl _ _ rfl w.heap.size _ acc _ (ownB_below hown (belowDrewN (Below.refl _ _) _)) rfl rfl (by omega) (belowDrewN hbr nq).size (by omega) (by have := UInt8.toNat_lt c; omega) ?_); intro v3 w3 hown3 hb3 hz3; replace hb3 := (belowDrewN hbr nq).trans hb3)
      go_roundw
      case rel => exact ⟨k + 2, acc ++ [c], by omega, by omega, by go_num, by simpa using hown3, by simp; omega, hb3, HX⟩
      case measure => simp [intOf]; omega
    · have hk : k = s.size := by omega
      have HX := Lib.hid (show acc = T by have := H.out; rw [hk, List.drop_eq_nil_of_le (by simp)] at this; simpa [pairs] using this)
      obtain ⟨p, cv, rfl⟩ := ownB_slice hown
      have hcv := convB hown
      clear H hk
      go_wp2
      refine bodyPost_ret (v := .tuple #[.string ⟨acc.toArray⟩, .int .i64 0]) (by simp [results, Tryz.results138, go_sem]) rfl ⟨by rw [HX.out], (by repeat' (first | (with_reducible first | exact Below.refl _ _ | refine Below.drew ?_ | refine belowDrewN ?_ _ | refine belowIter ?_ ?_ _ _ | refine Below.setCell ?_ ?_ _ | refine Below.alloc ?_ ?_ _ | refine bT hb4 ?_ ?_ | refine bT hb3 ?_ ?_ | refine bT hb2 ?_ ?_ | refine bT hb1 ?_ ?_ | refine bT hbr ?_ ?_ | refine bT hb ?_ ?_) | (simp; done) | (simp; omega) | omega))⟩
end Go.Proofs.YtibffdaljmmdoaaGreatDoor
