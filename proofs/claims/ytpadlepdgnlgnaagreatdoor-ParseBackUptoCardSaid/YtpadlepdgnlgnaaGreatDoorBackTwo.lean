/- The walks of the document's texts of numbers and of escaped bytes. -/
import Derived.Test.YtpadlepdgnlgnaaGreatDoorBackOne
import Derived.Test.YtpadlepdgnlgnaaGreatDoorEsc
import Derived.Deep.AppendLies
set_option linter.all false
/- The walks of the numbers' texts: foliantref06.digits, foliantref02.digits and foliantref02.Text. -/
namespace Go.Proofs.YtpadlepdgnlgnaaGreatDoor
open Go.RowKit Fo

theorem ba_app (a b : L) : (⟨a.toArray⟩ ++ ⟨b.toArray⟩ : ByteArray) = ⟨(a ++ b).toArray⟩ := by
  apply ByteArray.ext
  simp
set_option maxRecDepth 100000 in
set_option maxHeartbeats 1000000 in
theorem rdigU (n : Nat) : n < 1000000000000 → ∀ w, Calls Tryz.prog 31 #[.int .i64 n] w fun e w' => e = .returned (.string ⟨(digU n).toArray⟩) ∧ Below w.heap.size w w' := by
  induction n using Nat.strongRecOn with
  | _ n ih =>
    intro hn w
    by_cases h : n < 10
    · have hd : digU n = [UInt8.ofNat (48 + n)] := by unfold digU; rw [if_pos h]
      have HD := Lib.hid hd
      clear hd ih
      go_enter Tryz.func31, Tryz.ntmps31
      go_wp2_with fail
      rw [conv_one _ _ (by simp [isByte, go_sem])]
      go_wp2
      go_ret
      refine ⟨?_, (by repeat' (first | (with_reducible exact Below.refl _ _) | (with_reducible refine Below.drew ?_) | (with_reducible refine belowDrewN ?_ _) | (with_reducible refine belowIter ?_ ?_ _ _) | (with_reducible refine Below.setCell ?_ ?_ _) | (with_reducible refine Below.alloc ?_ ?_ _) | (with_reducible refine Below.trans ?_ (Below.mono hb4 ?_)) | (with_reducible refine Below.trans ?_ (Below.mono hb3 ?_)) | (with_reducible refine Below.trans ?_ (Below.mono hb2 ?_)) | (with_reducible refine Below.trans ?_ (Below.mono hb1 ?_)) | (with_reducible refine Below.trans ?_ (Below.mono hbr ?_)) | (with_reducible refine Below.trans ?_ (Below.mono hb ?_)) | (simp; done) | (simp; omega) | omega))⟩
      rw [HD.out]; simp [cellByte, go_sem]
      rw [show ((48 : Int) + (n : Int)).toNat = 48 + n by omega]; simp
    · have hd : digU n = digU (n / 10) ++ [UInt8.ofNat (48 + n % 10)] := by rw [digU, if_neg h]
      have hd2 : digU (n % 10) = [UInt8.ofNat (48 + n % 10)] := by rw [digU, if_pos (by omega)]
      have H1 := Lib.hid (ih (n / 10) (by omega) (by omega))
      have H2 := Lib.hid (ih (n % 10) (by omega) (by omega))
      have hl := digU_len (n / 10) 12 (by omega)
      rw [hd2] at H2
      have HD := Lib.hid hd
      clear hd hd2 ih
      go_enter Tryz.func31, Tryz.ntmps31
      go_wp2_with fail
      refine (H1.out _).mono ?_
      rintro e w1 ⟨rfl, hb1⟩
      go_wp2_with fail
      refine (H2.out _).mono ?_
      rintro e w2 ⟨rfl, hb2⟩
      have hz1 := hb1.size
      go_wp2
      go_ret
      refine ⟨?_, (by repeat' (first | (with_reducible exact Below.refl _ _) | (with_reducible refine Below.drew ?_) | (with_reducible refine belowDrewN ?_ _) | (with_reducible refine belowIter ?_ ?_ _ _) | (with_reducible refine Below.setCell ?_ ?_ _) | (with_reducible refine Below.alloc ?_ ?_ _) | (with_reducible refine Below.trans ?_ (Below.mono hb4 ?_)) | (with_reducible refine Below.trans ?_ (Below.mono hb3 ?_)) | (with_reducible refine Below.trans ?_ (Below.mono hb2 ?_)) | (with_reducible refine Below.trans ?_ (Below.mono hb1 ?_)) | (with_reducible refine Below.trans ?_ (Below.mono hbr ?_)) | (with_reducible refine Below.trans ?_ (Below.mono hb ?_)) | (simp; done) | (simp; omega) | omega))⟩
      rw [HD.out, ← ba_app]; simp
set_option maxRecDepth 100000 in
set_option maxHeartbeats 1000000 in
theorem rdigI (n : Int) (h1 : -2147483647 ≤ n) (h2 : n ≤ 2147483647) (w : World) : Calls Tryz.prog 31 #[.int .i64 n] w fun e w' => e = .returned (.string ⟨(digI n).toArray⟩) ∧ Below w.heap.size w w' := by
  by_cases h : n < 0
  · obtain ⟨m, hm⟩ : ∃ m : Nat, n.natAbs = m := ⟨_, rfl⟩
    have hd : digI n = [45] ++ digU m := by unfold digI; rw [if_pos h, hm]; rfl
    have hn : n = -(m : Int) := by omega
    subst hn
    have HD := Lib.hid hd
    have H1 := Lib.hid (fun W => rdigU m (by omega) W)
    have hl := digU_len m 12 (by omega)
    clear hd hm
    go_enter Tryz.func31, Tryz.ntmps31
    go_wp2_with fail
    refine (H1.out _).mono ?_
    rintro e w1 ⟨rfl, hb1⟩
    go_wp2
    go_ret
    refine ⟨?_, (by repeat' (first | (with_reducible exact Below.refl _ _) | (with_reducible refine Below.drew ?_) | (with_reducible refine belowDrewN ?_ _) | (with_reducible refine belowIter ?_ ?_ _ _) | (with_reducible refine Below.setCell ?_ ?_ _) | (with_reducible refine Below.alloc ?_ ?_ _) | (with_reducible refine Below.trans ?_ (Below.mono hb4 ?_)) | (with_reducible refine Below.trans ?_ (Below.mono hb3 ?_)) | (with_reducible refine Below.trans ?_ (Below.mono hb2 ?_)) | (with_reducible refine Below.trans ?_ (Below.mono hb1 ?_)) | (with_reducible refine Below.trans ?_ (Below.mono hbr ?_)) | (with_reducible refine Below.trans ?_ (Below.mono hb ?_)) | (simp; done) | (simp; omega) | omega))⟩
    rw [HD.out, ← ba_app]
    rfl
  · obtain ⟨m, rfl⟩ : ∃ m : Nat, n = m := ⟨n.toNat, by omega⟩
    have hd : digI (m : Int) = digU m := by unfold digI; rw [if_neg h]; rfl
    rw [hd]
    exact rdigU m (by omega) w
theorem byte48 (m : Nat) : cellByte (some (Value.int .u8 ((48 : Int) + (m : Int) % 10))) = UInt8.ofNat (48 + m % 10) := by
  simp only [cellByte]
  rw [show ((48 : Int) + (m : Int) % 10).toNat = 48 + m % 10 by omega]
def strSz : Value → Nat
  | .string b => b.size
  | _ => 0
theorem strSz_s (l : L) : strSz (.string ⟨l.toArray⟩) = l.length := rfl
def padU (k n : Nat) : L := if n = 0 ∧ k = 0 then [] else padU (k - 1) (n / 10) ++ [UInt8.ofNat (48 + n % 10)]
termination_by n + k
decreasing_by
  by_cases h : n = 0
  · omega
  · have := Nat.div_lt_self (Nat.pos_of_ne_zero h) (show 1 < 10 by omega); omega
theorem padU_zero : ∀ n, 0 < n → padU 0 n = digU n := by
  intro n
  induction n using Nat.strongRecOn with
  | _ n ih =>
    intro h
    rw [padU, if_neg (by omega)]
    by_cases h1 : n < 10
    · rw [show n / 10 = 0 by omega, padU, if_pos (by omega), digU, if_pos h1, show n % 10 = n by omega]; rfl
    · rw [ih (n / 10) (by omega) (by omega), digU.eq_def n, if_neg h1]
theorem padU_one (n : Nat) : padU 1 n = digU n := by
  rw [padU, if_neg (by omega)]
  by_cases h1 : n < 10
  · rw [show n / 10 = 0 by omega, padU, if_pos (by omega), digU, if_pos h1, show n % 10 = n by omega]; rfl
  · rw [padU_zero (n / 10) (by omega), digU.eq_def n, if_neg h1]
theorem padU_four (m : Nat) (h : m < 10000) : padU 4 m = [UInt8.ofNat (48 + m / 1000 % 10), UInt8.ofNat (48 + m / 100 % 10), UInt8.ofNat (48 + m / 10 % 10), UInt8.ofNat (48 + m % 10)] := by
  rw [padU, if_neg (by omega), padU, if_neg (by omega), padU, if_neg (by omega), padU, if_neg (by omega), padU, if_pos (by omega)]
  rw [show m / 10 / 10 / 10 = m / 1000 by omega, show m / 10 / 10 = m / 100 by omega]
  simp only [List.nil_append, List.cons_append]
set_option maxRecDepth 100000 in
set_option maxHeartbeats 1000000 in
theorem rpad (n k : Nat) (hn : n < 1000000000000) (hk : k ≤ 10) (w : World) : Calls Tryz.prog 64 #[.int .i64 n, .int .i64 k] w fun e w' => e = .returned (.string ⟨(padU k n).toArray⟩) ∧ Below w.heap.size w w' := by
  obtain ⟨T, hT⟩ : ∃ T, padU k n = T := ⟨_, rfl⟩
  rw [hT]
  have HT := Lib.hid (show padU (k - ([] : L).length) n ++ [] = T by simpa using hT)
  clear hT
  go_enter Tryz.func64, Tryz.ntmps64
  go_wp2
  go_loopw [0, 5] (fun a s wr => ∃ (m : Nat) (l : L), m < 10 ^ (12 - l.length) ∧ l.length ≤ 12 ∧ a = .int .i64 m ∧ s = .string ⟨l.toArray⟩ ∧ Below w.heap.size w wr ∧ Hid (padU (k - l.length) m ++ l = T)) (fun a s _ => (intOf a).toNat + (k - strSz s))
  case atStart => exact ⟨n, [], by simpa using hn, by simp, rfl, rfl, Below.refl _ _, HT⟩
  case round =>
    obtain ⟨m, l, hm, hl, rfl, rfl, hbr, H⟩ := hrel
    clear HT
    have hm12 : m < 10 ^ 12 := Nat.lt_of_lt_of_le hm (Nat.pow_le_pow_right (n := 10) (by decide) (by omega))
    have hm13 : m < 1000000000000 := by simpa using hm12
    clear hm12
    have HM := Lib.hid hm
    clear hm
    by_cases hgo : 0 < m ∨ l.length < k
    · have hl11 : l.length ≤ 11 := by
        apply Classical.byContradiction; intro hc
        have h12 : l.length = 12 := by omega
        have := HM.out
        rw [h12] at this
        simp at this
        omega
      have HX := Lib.hid (show padU (k - (UInt8.ofNat (48 + m % 10) :: l).length) (m / 10) ++ (UInt8.ofNat (48 + m % 10) :: l) = T by
        have := H.out
        rw [padU, if_neg (by omega), List.append_assoc] at this
        rw [List.length_cons, show k - (l.length + 1) = k - l.length - 1 by omega]
        exact this)
      have y1 : 1 + l.length ≤ 9223372036854775807 := by omega
      clear H
      by_cases hm0 : 0 < m
      · skip
        have HSTR := Lib.hid (show (⟨#[cellByte (some (Value.int .u8 ((48 : Int) + (m : Int) % 10)))]⟩ ++ ⟨l.toArray⟩ : ByteArray) = ⟨(UInt8.ofNat (48 + m % 10) :: l).toArray⟩ by rw [byte48]; exact ba_app [_] l)
        have hzr := hbr.size
        go_wp2_with fail
        rw [conv_one _ _ (by simp [isByte, go_sem])]
        go_wp2
        go_roundw
        case rel => exact ⟨m / 10, UInt8.ofNat (48 + m % 10) :: l, by have := HM.out; rw [show 12 - l.length = (12 - (l.length + 1)) + 1 by omega, Nat.pow_succ] at this; rw [List.length_cons]; omega, by simp; omega, by go_num, by rw [HSTR.out], (by repeat' (first | (with_reducible exact Below.refl _ _) | (with_reducible refine Below.drew ?_) | (with_reducible refine belowDrewN ?_ _) | (with_reducible refine belowIter ?_ ?_ _ _) | (with_reducible refine Below.setCell ?_ ?_ _) | (with_reducible refine Below.alloc ?_ ?_ _) | (with_reducible refine Below.trans ?_ (Below.mono hb4 ?_)) | (with_reducible refine Below.trans ?_ (Below.mono hb3 ?_)) | (with_reducible refine Below.trans ?_ (Below.mono hb2 ?_)) | (with_reducible refine Below.trans ?_ (Below.mono hb1 ?_)) | (with_reducible refine Below.trans ?_ (Below.mono hbr ?_)) | (with_reducible refine Below.trans ?_ (Below.mono hb ?_)) | (simp; done) | (simp; omega) | omega)), HX⟩
        case measure => rw [HSTR.out, strSz_s, strSz_s]; simp [intOf]; omega
      · have hlk : l.length < k := by omega
        have HSTR := Lib.hid (show (⟨#[cellByte (some (Value.int .u8 ((48 : Int) + (m : Int) % 10)))]⟩ ++ ⟨l.toArray⟩ : ByteArray) = ⟨(UInt8.ofNat (48 + m % 10) :: l).toArray⟩ by rw [byte48]; exact ba_app [_] l)
        have hzr := hbr.size
        go_wp2_with fail
        rw [conv_one _ _ (by simp [isByte, go_sem])]
        go_wp2
        go_roundw
        case rel => exact ⟨m / 10, UInt8.ofNat (48 + m % 10) :: l, by have := HM.out; rw [show 12 - l.length = (12 - (l.length + 1)) + 1 by omega, Nat.pow_succ] at this; rw [List.length_cons]; omega, by simp; omega, by go_num, by rw [HSTR.out], (by repeat' (first | (with_reducible exact Below.refl _ _) | (with_reducible refine Below.drew ?_) | (with_reducible refine belowDrewN ?_ _) | (with_reducible refine belowIter ?_ ?_ _ _) | (with_reducible refine Below.setCell ?_ ?_ _) | (with_reducible refine Below.alloc ?_ ?_ _) | (with_reducible refine Below.trans ?_ (Below.mono hb4 ?_)) | (with_reducible refine Below.trans ?_ (Below.mono hb3 ?_)) | (with_reducible refine Below.trans ?_ (Below.mono hb2 ?_)) | (with_reducible refine Below.trans ?_ (Below.mono hb1 ?_)) | (with_reducible refine Below.trans ?_ (Below.mono hbr ?_)) | (with_reducible refine Below.trans ?_ (Below.mono hb ?_)) | (simp; done) | (simp; omega) | omega)), HX⟩
        case measure => rw [HSTR.out, strSz_s, strSz_s]; simp [intOf]; omega
    · have hm0 : ¬ 0 < m := by omega
      have hlk : ¬ l.length < k := by omega
      have HX := Lib.hid (show l = T by have := H.out; rw [padU, if_pos (by omega)] at this; exact this)
      clear H
      go_wp2
      go_ret
      exact ⟨by rw [HX.out]; rfl, hbr⟩
end Go.Proofs.YtpadlepdgnlgnaaGreatDoor
/- The walk of foliantref02.Text: the text of a real number. -/
namespace Go.Proofs.YtpadlepdgnlgnaaGreatDoor
open Go.RowKit Fo

set_option maxHeartbeats 400000 in
theorem rwithin (n : Int) (h1 : -1073741824 ≤ n) (h2 : n ≤ 1073741824) (w : World) : Calls Tryz.prog 63 #[.int .i64 n] w fun e w' => e = .returned (.bool true) ∧ w' = w := by
  go_enter Tryz.func63, Tryz.ntmps63
  go_wp2
  go_ret
  exact ⟨rfl, rfl⟩
theorem ret_str {a b : ByteArray} (h : a.data.toList = b.data.toList) : Ending.returned (.string a) = .returned (.string b) := by
  have : a = b := ByteArray.ext (Array.toList_inj.1 h)
  rw [this]
theorem dig48 (n : Nat) (h : n < 10) : (((UInt8.ofNat (48 + n)).toNat : Int) == 48) = (n == 0) := by
  have h2 : n = 0 ∨ n = 1 ∨ n = 2 ∨ n = 3 ∨ n = 4 ∨ n = 5 ∨ n = 6 ∨ n = 7 ∨ n = 8 ∨ n = 9 := by omega
  rcases h2 with rfl | rfl | rfl | rfl | rfl | rfl | rfl | rfl | rfl | rfl <;> decide
set_option maxRecDepth 100000 in
set_option maxHeartbeats 2000000 in
theorem rrealT (n : Int) (h1 : -1073741824 ≤ n) (h2 : n ≤ 1073741824) (w : World) :
    Calls Tryz.prog 32 #[.int .i64 n] w fun e w' => e = .returned (.string ⟨(realT n).toArray⟩) ∧ Below w.heap.size w w' := by
  have HW := Lib.hid (fun W => rwithin n h1 h2 W)
  obtain ⟨m, hm⟩ : ∃ m : Nat, n.natAbs = m := ⟨_, rfl⟩
  have hm2 : m ≤ 1073741824 := by omega
  have hp4 := fun W => rpad (m % 10000) 4 (by omega) (by omega) W
  rw [padU_four (m % 10000) (by omega), show m % 10000 / 1000 % 10 = m / 1000 % 10 by omega, show m % 10000 / 100 % 10 = m / 100 % 10 by omega, show m % 10000 / 10 % 10 = m / 10 % 10 by omega, show m % 10000 % 10 = m % 10 by omega] at hp4
  have hq := fun W => rpad (m / 10000) 1 (by omega) (by omega) W
  rw [padU_one] at hq
  have TA := dig48 (m / 1000 % 10) (by omega)
  have TB := dig48 (m / 100 % 10) (by omega)
  have TC := dig48 (m / 10 % 10) (by omega)
  have TD := dig48 (m % 10) (by omega)
  obtain ⟨A, hA⟩ : ∃ A, UInt8.ofNat (48 + m / 1000 % 10) = A := ⟨_, rfl⟩
  obtain ⟨B, hB⟩ : ∃ A, UInt8.ofNat (48 + m / 100 % 10) = A := ⟨_, rfl⟩
  obtain ⟨C, hC⟩ : ∃ A, UInt8.ofNat (48 + m / 10 % 10) = A := ⟨_, rfl⟩
  obtain ⟨D, hD⟩ : ∃ A, UInt8.ofNat (48 + m % 10) = A := ⟨_, rfl⟩
  rw [hA] at hp4 TA
  rw [hB] at hp4 TB
  rw [hC] at hp4 TC
  rw [hD] at hp4 TD
  have hql := digU_len (m / 10000) 12 (by omega)
  obtain ⟨Q, hQ⟩ : ∃ Q, digU (m / 10000) = Q := ⟨_, rfl⟩
  rw [hQ] at hq hql
  have HP4 := Lib.hid hp4
  have HQ := Lib.hid hq
  have EA := Lib.hid hA
  have EB := Lib.hid hB
  have EC := Lib.hid hC
  have ED := Lib.hid hD
  have EQ := Lib.hid hQ
  have y1 : Q.length + 1 ≤ 9223372036854775807 := by omega
  have y2 : 1 + Q.length ≤ 9223372036854775807 := by omega
  have y3 : 1 + Q.length + 1 ≤ 9223372036854775807 := by omega
  have y4 : Q.length ≤ 9223372036854775807 := by omega
  have y5 : Q.length + 1 + 1 ≤ 9223372036854775807 := by omega
  have y6 : Q.length + 1 + 2 ≤ 9223372036854775807 := by omega
  have y7 : Q.length + 1 + 3 ≤ 9223372036854775807 := by omega
  have y8 : Q.length + 1 + 4 ≤ 9223372036854775807 := by omega
  have y9 : 1 + Q.length + 1 + 1 ≤ 9223372036854775807 := by omega
  have y10 : 1 + Q.length + 1 + 2 ≤ 9223372036854775807 := by omega
  have y11 : 1 + Q.length + 1 + 3 ≤ 9223372036854775807 := by omega
  have y12 : 1 + Q.length + 1 + 4 ≤ 9223372036854775807 := by omega
  by_cases hn : n < 0
  · have HN := Lib.hid (show realT n = 45 :: realU m by unfold realT; rw [if_pos hn, hm])
    have hnm : n = -(m : Int) := by omega
    subst hnm
    clear hm hp4 hq hA hB hC hD hQ hql TA
    go_enter Tryz.func32, Tryz.ntmps32
    go_wp2_with (go_at_call 63; refine (HW.out _).mono ?_; rintro e w0 ⟨rfl, rfl⟩)
    refine (HP4.out _).mono ?_
    rintro e w1 ⟨rfl, hb1⟩
    have hz1 := hb1.size
    go_wp2
    go_loop [4] (fun p => (p = .string ⟨#[A, B, C, D]⟩) ∨ (p = .string ⟨#[A, B, C]⟩ ∧ Hid (m % 10 = 0)) ∨ (p = .string ⟨#[A, B]⟩ ∧ Hid (m % 10 = 0 ∧ m / 10 % 10 = 0)) ∨ (p = .string ⟨#[A]⟩ ∧ Hid (m % 10 = 0 ∧ m / 10 % 10 = 0 ∧ m / 100 % 10 = 0))) (fun p => strSz p)
    case atStart => exact .inl rfl
    case round =>
      rcases hrel with rfl | ⟨rfl, Z⟩ | ⟨rfl, Z⟩ | ⟨rfl, Z⟩
      · cases td : (m % 10 == 0)
        · rw [td] at TD
          replace TD : ((((⟨#[A, B, C, D]⟩ : ByteArray)[3]'(by show 3 < 4; omega)).toNat : Int) == 48) = false := TD
          have HT := Lib.hid (show fracT m = [A, B, C, D] by
            rw [← EA.out, ← EB.out, ← EC.out, ← ED.out]; unfold fracT trim4; rw [if_pos (by simpa using td)])
          clear td
          go_wp2_with fail
          refine (HQ.out _).mono ?_
          rintro e w2 ⟨rfl, hb2⟩
          go_wp2
          go_ret
          refine ⟨ret_str ?_, by have hz2 := hb2.size; exact (by repeat' (first | (with_reducible exact Below.refl _ _) | (with_reducible refine Below.drew ?_) | (with_reducible refine belowDrewN ?_ _) | (with_reducible refine belowIter ?_ ?_ _ _) | (with_reducible refine Below.setCell ?_ ?_ _) | (with_reducible refine Below.alloc ?_ ?_ _) | (with_reducible refine Below.trans ?_ (Below.mono hb4 ?_)) | (with_reducible refine Below.trans ?_ (Below.mono hb3 ?_)) | (with_reducible refine Below.trans ?_ (Below.mono hb2 ?_)) | (with_reducible refine Below.trans ?_ (Below.mono hb1 ?_)) | (with_reducible refine Below.trans ?_ (Below.mono hbr ?_)) | (with_reducible refine Below.trans ?_ (Below.mono hb ?_)) | (simp; done) | (simp; omega) | omega))⟩
          rw [HN.out]; unfold realU; rw [HT.out, EQ.out]
          simp
        · rw [td] at TD
          replace TD : ((((⟨#[A, B, C, D]⟩ : ByteArray)[3]'(by show 3 < 4; omega)).toNat : Int) == 48) = true := TD
          have Z2 := Lib.hid (show m % 10 = 0 by simpa using td)
          clear td
          go_wp2
          go_round
          case rel => exact .inr (.inl ⟨rfl, Z2⟩)
          case measure => simp [strSz, ByteArray.size]
      · cases tc : (m / 10 % 10 == 0)
        · rw [tc] at TC
          replace TC : ((((⟨#[A, B, C]⟩ : ByteArray)[2]'(by show 2 < 3; omega)).toNat : Int) == 48) = false := TC
          have HT := Lib.hid (show fracT m = [A, B, C] by
            rw [← EA.out, ← EB.out, ← EC.out]; unfold fracT trim4; rw [if_neg (by simp [Z.out]), if_pos (by simpa using tc)])
          clear tc
          go_wp2_with fail
          refine (HQ.out _).mono ?_
          rintro e w2 ⟨rfl, hb2⟩
          go_wp2
          go_ret
          refine ⟨ret_str ?_, by have hz2 := hb2.size; exact (by repeat' (first | (with_reducible exact Below.refl _ _) | (with_reducible refine Below.drew ?_) | (with_reducible refine belowDrewN ?_ _) | (with_reducible refine belowIter ?_ ?_ _ _) | (with_reducible refine Below.setCell ?_ ?_ _) | (with_reducible refine Below.alloc ?_ ?_ _) | (with_reducible refine Below.trans ?_ (Below.mono hb4 ?_)) | (with_reducible refine Below.trans ?_ (Below.mono hb3 ?_)) | (with_reducible refine Below.trans ?_ (Below.mono hb2 ?_)) | (with_reducible refine Below.trans ?_ (Below.mono hb1 ?_)) | (with_reducible refine Below.trans ?_ (Below.mono hbr ?_)) | (with_reducible refine Below.trans ?_ (Below.mono hb ?_)) | (simp; done) | (simp; omega) | omega))⟩
          rw [HN.out]; unfold realU; rw [HT.out, EQ.out]
          simp
        · rw [tc] at TC
          replace TC : ((((⟨#[A, B, C]⟩ : ByteArray)[2]'(by show 2 < 3; omega)).toNat : Int) == 48) = true := TC
          have Z2 := Lib.hid (show m % 10 = 0 ∧ m / 10 % 10 = 0 from ⟨Z.out, by simpa using tc⟩)
          clear tc
          go_wp2
          go_round
          case rel => exact .inr (.inr (.inl ⟨rfl, Z2⟩))
          case measure => simp [strSz, ByteArray.size]
      · cases tb : (m / 100 % 10 == 0)
        · rw [tb] at TB
          replace TB : ((((⟨#[A, B]⟩ : ByteArray)[1]'(by show 1 < 2; omega)).toNat : Int) == 48) = false := TB
          have HT := Lib.hid (show fracT m = [A, B] by
            rw [← EA.out, ← EB.out]; unfold fracT trim4; rw [if_neg (by simp [Z.out.1]), if_neg (by simp [Z.out.2]), if_pos (by simpa using tb)])
          clear tb
          go_wp2_with fail
          refine (HQ.out _).mono ?_
          rintro e w2 ⟨rfl, hb2⟩
          go_wp2
          go_ret
          refine ⟨ret_str ?_, by have hz2 := hb2.size; exact (by repeat' (first | (with_reducible exact Below.refl _ _) | (with_reducible refine Below.drew ?_) | (with_reducible refine belowDrewN ?_ _) | (with_reducible refine belowIter ?_ ?_ _ _) | (with_reducible refine Below.setCell ?_ ?_ _) | (with_reducible refine Below.alloc ?_ ?_ _) | (with_reducible refine Below.trans ?_ (Below.mono hb4 ?_)) | (with_reducible refine Below.trans ?_ (Below.mono hb3 ?_)) | (with_reducible refine Below.trans ?_ (Below.mono hb2 ?_)) | (with_reducible refine Below.trans ?_ (Below.mono hb1 ?_)) | (with_reducible refine Below.trans ?_ (Below.mono hbr ?_)) | (with_reducible refine Below.trans ?_ (Below.mono hb ?_)) | (simp; done) | (simp; omega) | omega))⟩
          rw [HN.out]; unfold realU; rw [HT.out, EQ.out]
          simp
        · rw [tb] at TB
          replace TB : ((((⟨#[A, B]⟩ : ByteArray)[1]'(by show 1 < 2; omega)).toNat : Int) == 48) = true := TB
          have Z2 := Lib.hid (show m % 10 = 0 ∧ m / 10 % 10 = 0 ∧ m / 100 % 10 = 0 from ⟨Z.out.1, Z.out.2, by simpa using tb⟩)
          clear tb
          go_wp2
          go_round
          case rel => exact .inr (.inr (.inr ⟨rfl, Z2⟩))
          case measure => simp [strSz, ByteArray.size]
      · have HT := Lib.hid (show fracT m = [A] by
          rw [← EA.out]; unfold fracT trim4; rw [if_neg (by simp [Z.out.1]), if_neg (by simp [Z.out.2.1]), if_neg (by simp [Z.out.2.2])])
        go_wp2_with fail
        refine (HQ.out _).mono ?_
        rintro e w2 ⟨rfl, hb2⟩
        go_wp2
        go_ret
        refine ⟨ret_str ?_, by have hz2 := hb2.size; exact (by repeat' (first | (with_reducible exact Below.refl _ _) | (with_reducible refine Below.drew ?_) | (with_reducible refine belowDrewN ?_ _) | (with_reducible refine belowIter ?_ ?_ _ _) | (with_reducible refine Below.setCell ?_ ?_ _) | (with_reducible refine Below.alloc ?_ ?_ _) | (with_reducible refine Below.trans ?_ (Below.mono hb4 ?_)) | (with_reducible refine Below.trans ?_ (Below.mono hb3 ?_)) | (with_reducible refine Below.trans ?_ (Below.mono hb2 ?_)) | (with_reducible refine Below.trans ?_ (Below.mono hb1 ?_)) | (with_reducible refine Below.trans ?_ (Below.mono hbr ?_)) | (with_reducible refine Below.trans ?_ (Below.mono hb ?_)) | (simp; done) | (simp; omega) | omega))⟩
        rw [HN.out]; unfold realU; rw [HT.out, EQ.out]
        simp
  · have HN := Lib.hid (show realT n = realU m by unfold realT; rw [if_neg hn, hm])
    have hnm : n = (m : Int) := by omega
    subst hnm
    clear hm hp4 hq hA hB hC hD hQ hql TA
    go_enter Tryz.func32, Tryz.ntmps32
    go_wp2_with (go_at_call 63; refine (HW.out _).mono ?_; rintro e w0 ⟨rfl, rfl⟩)
    refine (HP4.out _).mono ?_
    rintro e w1 ⟨rfl, hb1⟩
    have hz1 := hb1.size
    go_wp2
    go_loop [4] (fun p => (p = .string ⟨#[A, B, C, D]⟩) ∨ (p = .string ⟨#[A, B, C]⟩ ∧ Hid (m % 10 = 0)) ∨ (p = .string ⟨#[A, B]⟩ ∧ Hid (m % 10 = 0 ∧ m / 10 % 10 = 0)) ∨ (p = .string ⟨#[A]⟩ ∧ Hid (m % 10 = 0 ∧ m / 10 % 10 = 0 ∧ m / 100 % 10 = 0))) (fun p => strSz p)
    case atStart => exact .inl rfl
    case round =>
      rcases hrel with rfl | ⟨rfl, Z⟩ | ⟨rfl, Z⟩ | ⟨rfl, Z⟩
      · cases td : (m % 10 == 0)
        · rw [td] at TD
          replace TD : ((((⟨#[A, B, C, D]⟩ : ByteArray)[3]'(by show 3 < 4; omega)).toNat : Int) == 48) = false := TD
          have HT := Lib.hid (show fracT m = [A, B, C, D] by
            rw [← EA.out, ← EB.out, ← EC.out, ← ED.out]; unfold fracT trim4; rw [if_pos (by simpa using td)])
          clear td
          go_wp2_with fail
          refine (HQ.out _).mono ?_
          rintro e w2 ⟨rfl, hb2⟩
          go_wp2
          go_ret
          refine ⟨ret_str ?_, by have hz2 := hb2.size; exact (by repeat' (first | (with_reducible exact Below.refl _ _) | (with_reducible refine Below.drew ?_) | (with_reducible refine belowDrewN ?_ _) | (with_reducible refine belowIter ?_ ?_ _ _) | (with_reducible refine Below.setCell ?_ ?_ _) | (with_reducible refine Below.alloc ?_ ?_ _) | (with_reducible refine Below.trans ?_ (Below.mono hb4 ?_)) | (with_reducible refine Below.trans ?_ (Below.mono hb3 ?_)) | (with_reducible refine Below.trans ?_ (Below.mono hb2 ?_)) | (with_reducible refine Below.trans ?_ (Below.mono hb1 ?_)) | (with_reducible refine Below.trans ?_ (Below.mono hbr ?_)) | (with_reducible refine Below.trans ?_ (Below.mono hb ?_)) | (simp; done) | (simp; omega) | omega))⟩
          rw [HN.out]; unfold realU; rw [HT.out, EQ.out]
          simp
        · rw [td] at TD
          replace TD : ((((⟨#[A, B, C, D]⟩ : ByteArray)[3]'(by show 3 < 4; omega)).toNat : Int) == 48) = true := TD
          have Z2 := Lib.hid (show m % 10 = 0 by simpa using td)
          clear td
          go_wp2
          go_round
          case rel => exact .inr (.inl ⟨rfl, Z2⟩)
          case measure => simp [strSz, ByteArray.size]
      · cases tc : (m / 10 % 10 == 0)
        · rw [tc] at TC
          replace TC : ((((⟨#[A, B, C]⟩ : ByteArray)[2]'(by show 2 < 3; omega)).toNat : Int) == 48) = false := TC
          have HT := Lib.hid (show fracT m = [A, B, C] by
            rw [← EA.out, ← EB.out, ← EC.out]; unfold fracT trim4; rw [if_neg (by simp [Z.out]), if_pos (by simpa using tc)])
          clear tc
          go_wp2_with fail
          refine (HQ.out _).mono ?_
          rintro e w2 ⟨rfl, hb2⟩
          go_wp2
          go_ret
          refine ⟨ret_str ?_, by have hz2 := hb2.size; exact (by repeat' (first | (with_reducible exact Below.refl _ _) | (with_reducible refine Below.drew ?_) | (with_reducible refine belowDrewN ?_ _) | (with_reducible refine belowIter ?_ ?_ _ _) | (with_reducible refine Below.setCell ?_ ?_ _) | (with_reducible refine Below.alloc ?_ ?_ _) | (with_reducible refine Below.trans ?_ (Below.mono hb4 ?_)) | (with_reducible refine Below.trans ?_ (Below.mono hb3 ?_)) | (with_reducible refine Below.trans ?_ (Below.mono hb2 ?_)) | (with_reducible refine Below.trans ?_ (Below.mono hb1 ?_)) | (with_reducible refine Below.trans ?_ (Below.mono hbr ?_)) | (with_reducible refine Below.trans ?_ (Below.mono hb ?_)) | (simp; done) | (simp; omega) | omega))⟩
          rw [HN.out]; unfold realU; rw [HT.out, EQ.out]
          simp
        · rw [tc] at TC
          replace TC : ((((⟨#[A, B, C]⟩ : ByteArray)[2]'(by show 2 < 3; omega)).toNat : Int) == 48) = true := TC
          have Z2 := Lib.hid (show m % 10 = 0 ∧ m / 10 % 10 = 0 from ⟨Z.out, by simpa using tc⟩)
          clear tc
          go_wp2
          go_round
          case rel => exact .inr (.inr (.inl ⟨rfl, Z2⟩))
          case measure => simp [strSz, ByteArray.size]
      · cases tb : (m / 100 % 10 == 0)
        · rw [tb] at TB
          replace TB : ((((⟨#[A, B]⟩ : ByteArray)[1]'(by show 1 < 2; omega)).toNat : Int) == 48) = false := TB
          have HT := Lib.hid (show fracT m = [A, B] by
            rw [← EA.out, ← EB.out]; unfold fracT trim4; rw [if_neg (by simp [Z.out.1]), if_neg (by simp [Z.out.2]), if_pos (by simpa using tb)])
          clear tb
          go_wp2_with fail
          refine (HQ.out _).mono ?_
          rintro e w2 ⟨rfl, hb2⟩
          go_wp2
          go_ret
          refine ⟨ret_str ?_, by have hz2 := hb2.size; exact (by repeat' (first | (with_reducible exact Below.refl _ _) | (with_reducible refine Below.drew ?_) | (with_reducible refine belowDrewN ?_ _) | (with_reducible refine belowIter ?_ ?_ _ _) | (with_reducible refine Below.setCell ?_ ?_ _) | (with_reducible refine Below.alloc ?_ ?_ _) | (with_reducible refine Below.trans ?_ (Below.mono hb4 ?_)) | (with_reducible refine Below.trans ?_ (Below.mono hb3 ?_)) | (with_reducible refine Below.trans ?_ (Below.mono hb2 ?_)) | (with_reducible refine Below.trans ?_ (Below.mono hb1 ?_)) | (with_reducible refine Below.trans ?_ (Below.mono hbr ?_)) | (with_reducible refine Below.trans ?_ (Below.mono hb ?_)) | (simp; done) | (simp; omega) | omega))⟩
          rw [HN.out]; unfold realU; rw [HT.out, EQ.out]
          simp
        · rw [tb] at TB
          replace TB : ((((⟨#[A, B]⟩ : ByteArray)[1]'(by show 1 < 2; omega)).toNat : Int) == 48) = true := TB
          have Z2 := Lib.hid (show m % 10 = 0 ∧ m / 10 % 10 = 0 ∧ m / 100 % 10 = 0 from ⟨Z.out.1, Z.out.2, by simpa using tb⟩)
          clear tb
          go_wp2
          go_round
          case rel => exact .inr (.inr (.inr ⟨rfl, Z2⟩))
          case measure => simp [strSz, ByteArray.size]
      · have HT := Lib.hid (show fracT m = [A] by
          rw [← EA.out]; unfold fracT trim4; rw [if_neg (by simp [Z.out.1]), if_neg (by simp [Z.out.2.1]), if_neg (by simp [Z.out.2.2])])
        go_wp2_with fail
        refine (HQ.out _).mono ?_
        rintro e w2 ⟨rfl, hb2⟩
        go_wp2
        go_ret
        refine ⟨ret_str ?_, by have hz2 := hb2.size; exact (by repeat' (first | (with_reducible exact Below.refl _ _) | (with_reducible refine Below.drew ?_) | (with_reducible refine belowDrewN ?_ _) | (with_reducible refine belowIter ?_ ?_ _ _) | (with_reducible refine Below.setCell ?_ ?_ _) | (with_reducible refine Below.alloc ?_ ?_ _) | (with_reducible refine Below.trans ?_ (Below.mono hb4 ?_)) | (with_reducible refine Below.trans ?_ (Below.mono hb3 ?_)) | (with_reducible refine Below.trans ?_ (Below.mono hb2 ?_)) | (with_reducible refine Below.trans ?_ (Below.mono hb1 ?_)) | (with_reducible refine Below.trans ?_ (Below.mono hbr ?_)) | (with_reducible refine Below.trans ?_ (Below.mono hb ?_)) | (simp; done) | (simp; omega) | omega))⟩
        rw [HN.out]; unfold realU; rw [HT.out, EQ.out]
        simp
end Go.Proofs.YtpadlepdgnlgnaaGreatDoor
/- The walks of foliantref01.Hex at one byte, and of foliantref06.escaped. -/
namespace Go.Proofs.YtpadlepdgnlgnaaGreatDoor
open Go.RowKit Fo

abbrev hexLit : ByteArray := ⟨#[48, 49, 50, 51, 52, 53, 54, 55, 56, 57, 65, 66, 67, 68, 69, 70]⟩
theorem hexLit_at (n : Nat) (h : n < 16) : hexLit[n]'(by show n < 16; omega) = hexD n := by
  have h2 : n = 0 ∨ n = 1 ∨ n = 2 ∨ n = 3 ∨ n = 4 ∨ n = 5 ∨ n = 6 ∨ n = 7 ∨ n = 8 ∨ n = 9 ∨ n = 10 ∨ n = 11 ∨ n = 12 ∨ n = 13 ∨ n = 14 ∨ n = 15 := by omega
  rcases h2 with rfl | rfl | rfl | rfl | rfl | rfl | rfl | rfl | rfl | rfl | rfl | rfl | rfl | rfl | rfl | rfl <;> rfl
set_option maxRecDepth 100000 in
set_option maxHeartbeats 1000000 in
theorem rhexc (c : UInt8) (w : World) : Calls Tryz.prog 65 #[.string ⟨#[c]⟩] w fun e w' => e = .returned (.string ⟨([hexD (c.toNat / 16), hexD (c.toNat % 16)] : L).toArray⟩) ∧ Below w.heap.size w w' := by
  obtain ⟨X, hX⟩ : ∃ X : L, [hexD (c.toNat / 16), hexD (c.toNat % 16)] = X := ⟨_, rfl⟩
  rw [hX]
  have HX := Lib.hid hX
  clear hX
  have hc := UInt8.toNat_lt c
  have v1 : c.toNat / 16 < 16 := by omega
  have v2 : c.toNat % 16 < 16 := by omega
  have v3 : (c.toNat : Int) / 16 < 16 := by omega
  have v4 : (c.toNat : Int) % 16 < 16 := by omega
  have v5 : (0 : Int) ≤ (c.toNat : Int) / 16 := by omega
  have v6 : (0 : Int) ≤ (c.toNat : Int) % 16 := by omega
  have v7 : ((c.toNat : Int) / 16).toNat = c.toNat / 16 := by omega
  have v8 : ((c.toNat : Int) % 16).toNat = c.toNat % 16 := by omega
  have q0 : ((⟨#[c]⟩ : ByteArray)[0]'(by show 0 < 1; omega)) = c := rfl
  have q1 : IntKind.u8.wrap ((c.toNat : Int) / 16) = (c.toNat : Int) / 16 := IntWalk.u8_in _ ⟨by omega, by omega⟩
  have q2 : IntKind.u8.wrap ((c.toNat : Int).tmod 16) = (c.toNat : Int) % 16 := by
    rw [Int.tmod_eq_emod_of_nonneg (by omega)]; exact IntWalk.u8_in _ ⟨by omega, by omega⟩
  have q4 : (c.toNat : Int).tmod 16 = (c.toNat : Int) % 16 := Int.tmod_eq_emod_of_nonneg (by omega)
  have q3 : IntKind.u8.wrap ((c.toNat : Int) % 16) = (c.toNat : Int) % 16 := IntWalk.u8_in _ ⟨by omega, by omega⟩
  have E1 := Lib.hid (hexLit_at (c.toNat / 16) v1)
  have E2 := Lib.hid (hexLit_at (c.toNat % 16) v2)
  go_enter Tryz.func65, Tryz.ntmps65
  go_wp2
  go_loopw [4, 5] (fun v i wr => Below w.heap.size w wr ∧ ((i = .int .i64 0 ∧ v = .slice none 0 0) ∨ (i = .int .i64 1 ∧ ownB wr w.heap.size v X))) (fun _ i _ => 1 - (intOf i).toNat)
  case atStart => exact ⟨Below.refl _ _, .inl ⟨rfl, rfl⟩⟩
  case round =>
    obtain ⟨hbr, ⟨rfl, rfl⟩ | ⟨rfl, hown⟩⟩ := hrel
    · have hown := ownB_nil wr w.heap.size
      have hBr := hbr.size
      have hown2 : wr.drew.ownsRow w.heap.size 5 1 (.slice none 0 0) 0 [] := hown
      obtain ⟨i0, hi0, y0, y1, y2⟩ := info_parts Tryz.infoU8
      go_wp2_with fail
      go_region_law (refine step_append_lies _ (by rfl) _ _ _ (by rfl) w.heap.size 5 i0 (.int .u8 0) 1 1 Tryz.underlying80 hi0 y0 y1 y2 rfl (by omega) (.slice none 0 0) 0 [] (by rfl) (hown2.alloc _) ⟨wr.heap.size, 0, none⟩ 2 2 [.int .u8 ((hexLit[c.toNat / 16]'v1).toNat : Int), .int .u8 ((hexLit[c.toNat % 16]'v2).toNat : Int)] (by rfl) (by rfl) (World.news_of_block (cs := #[.int .u8 ((hexLit[c.toNat / 16]'v1).toNat : Int), .int .u8 ((hexLit[c.toNat % 16]'v2).toNat : Int)]) (t := 5) (fr := (0, 0)) (heap_alloc_new wr.drew _)) (by intro u hu; simp at hu; rcases hu with rfl | rfl <;> rfl) (by omega) (by unfold maxLen; omega) (by omega) (by simp; omega) (wr.heap.size + 1) (by simp) ?_; intro g2 cap w5 hown5 hgrow hat hlt5)
      all_goals
        have hX5 : ownB w5 w.heap.size (.slice (some ⟨g2, 0, none⟩) 2 cap) X := by
          have h := hown5
          rw [E1.out, E2.out] at h
          rw [← HX.out]; exact h
        have hb5 : Below w.heap.size w w5 := ((hbr.drew).alloc hBr _).grown hgrow (by simp; omega) (fun k hk => by simp [Value.ownBlock] at hk)
        go_wp2
        go_roundw
      all_goals first
        | (case rel => exact ⟨hb5, .inr ⟨by go_num, hX5⟩⟩)
        | (case measure => simp [intOf])
    · obtain ⟨p, cv, rfl⟩ := ownB_slice hown
      have hcv := convB hown
      go_wp2
      go_ret
      exact ⟨rfl, hbr⟩
theorem alnum_nat (c : UInt8) : alnum c = decide ((97 ≤ c.toNat ∧ c.toNat ≤ 122) ∨ (65 ≤ c.toNat ∧ c.toNat ≤ 90) ∨ (48 ≤ c.toNat ∧ c.toNat ≤ 57)) := by
  simpa using u8_all (fun c => alnum c == decide ((97 ≤ c.toNat ∧ c.toNat ≤ 122) ∨ (65 ≤ c.toNat ∧ c.toNat ≤ 90) ∨ (48 ≤ c.toNat ∧ c.toNat ≤ 57))) (by decide +kernel) c
theorem seven (n : Nat) : n < 48 ∨ (48 ≤ n ∧ n ≤ 57) ∨ (58 ≤ n ∧ n ≤ 64) ∨ (65 ≤ n ∧ n ≤ 90) ∨ (91 ≤ n ∧ n ≤ 96) ∨ (97 ≤ n ∧ n ≤ 122) ∨ 123 ≤ n := by omega
theorem oct3 (n : Nat) (h : n < 256) : ((UInt8.ofNat (48 + n / 64)).toNat : Int) = 48 + (n : Int) / 64 ∧ ((UInt8.ofNat (48 + n / 8 % 8)).toNat : Int) = 48 + (n : Int) / 8 % 8 ∧ ((UInt8.ofNat (48 + n % 8)).toNat : Int) = 48 + (n : Int) % 8 := by
  simp only [UInt8.toNat_ofNat']; omega
theorem val_str {a b : ByteArray} (h : a.data.toList = b.data.toList) : Value.string a = .string b := by
  have : a = b := ByteArray.ext (Array.toList_inj.1 h)
  rw [this]
theorem escC_len (nm : Bool) (c : UInt8) : (escC nm c).length ≤ 4 := by unfold escC; split <;> (try split) <;> simp
set_option maxRecDepth 100000 in
set_option maxHeartbeats 2000000 in
theorem resc (s : ByteArray) (nm : Bool) (hs : s.size ≤ 140737488355327) (w : World) : Calls Tryz.prog 33 #[.string s, .bool nm] w fun e w' => e = .returned (.string ⟨(escS nm s.data.toList).toArray⟩) ∧ Below w.heap.size w w' := by
  obtain ⟨T, hT⟩ : ∃ T, escS nm s.data.toList = T := ⟨_, rfl⟩
  rw [hT]
  have HT := Lib.hid (show [] ++ escS nm (s.data.toList.drop 0) = T by simpa using hT)
  clear hT
  go_enter Tryz.func33, Tryz.ntmps33
  go_wp2
  go_loopw [5, 6] (fun o i wr => ∃ (k : Nat) (l : L), k ≤ s.size ∧ i = .int .i64 k ∧ o = .string ⟨l.toArray⟩ ∧ l.length ≤ 4 * k ∧ Below w.heap.size w wr ∧ Hid (l ++ escS nm (s.data.toList.drop k) = T)) (fun _ i _ => s.size - (intOf i).toNat)
  case atStart => exact ⟨0, [], by omega, by go_num, rfl, by simp, Below.refl _ _, HT⟩
  case round =>
    obtain ⟨k, l, hk, rfl, rfl, hl, hbr, H⟩ := hrel
    clear HT
    by_cases hlt : k < s.size
    · have y1 : l.length + 1 ≤ 9223372036854775807 := by omega
      have y2 : l.length + 1 + 2 ≤ 9223372036854775807 := by omega
      have y3 : l.length + 1 + 3 ≤ 9223372036854775807 := by omega
      have hc := UInt8.toNat_lt s[k]
      have hc2 : (s[k].toNat : Int) < 256 := by omega
      rcases seven s[k].toNat with hi | hi | hi | hi | hi | hi | hi
      · skip
        have hna : ¬ alnum s[k] = true := by rw [alnum_nat]; simp; omega
        cases nm
        · have hcc : escC false s[k] = [92, UInt8.ofNat (48 + s[k].toNat / 64), UInt8.ofNat (48 + s[k].toNat / 8 % 8), UInt8.ofNat (48 + s[k].toNat % 8)] := by unfold escC; rw [if_neg hna]; rfl
          obtain ⟨o1, o2, o3⟩ := oct3 s[k].toNat (UInt8.toNat_lt _)
          obtain ⟨A1, hA1⟩ : ∃ x, UInt8.ofNat (48 + s[k].toNat / 64) = x := ⟨_, rfl⟩
          obtain ⟨A2, hA2⟩ : ∃ x, UInt8.ofNat (48 + s[k].toNat / 8 % 8) = x := ⟨_, rfl⟩
          obtain ⟨A3, hA3⟩ : ∃ x, UInt8.ofNat (48 + s[k].toNat % 8) = x := ⟨_, rfl⟩
          rw [hA1] at hcc o1
          rw [hA2] at hcc o2
          rw [hA3] at hcc o3
          have HC := Lib.hid hcc
          clear hcc hA1 hA2 hA3
          have hown : ownB (wr.alloc (.cells #[.int .u8 (48 + (s[k].toNat : Int) / 64), .int .u8 (48 + (s[k].toNat : Int) / 8 % 8), .int .u8 (48 + (s[k].toNat : Int) % 8)] 5)) wr.heap.size (.slice (some ⟨wr.heap.size, 0, none⟩) 3 3) [A1, A2, A3] := by
            have := World.ownsRow_lit (e := 5) (size := 1) (base := wr.heap.size) wr #[.int .u8 (48 + (s[k].toNat : Int) / 64), .int .u8 (48 + (s[k].toNat : Int) / 8 % 8), .int .u8 (48 + (s[k].toNat : Int) % 8)] 3 (Nat.le_refl _) (by unfold maxLen; omega) rfl
            rw [← o1, ← o2, ← o3] at this ⊢
            exact this
          have HCV := Lib.hid (convB hown)
          have hzr := hbr.size
          clear hown o1 o2 o3 hna
          go_wp2_with fail
          rw [HCV.out]
          go_wp2
          go_roundw
          case rel => exact ⟨k + 1, l ++ escC false s[k], by omega, by go_num, val_str (by rw [HC.out]; simp), by have := escC_len false s[k]; simp; omega, (by repeat' (first | (with_reducible exact Below.refl _ _) | (with_reducible refine Below.drew ?_) | (with_reducible refine belowDrewN ?_ _) | (with_reducible refine belowIter ?_ ?_ _ _) | (with_reducible refine Below.setCell ?_ ?_ _) | (with_reducible refine Below.alloc ?_ ?_ _) | (with_reducible refine Below.trans ?_ (Below.mono hb4 ?_)) | (with_reducible refine Below.trans ?_ (Below.mono hb3 ?_)) | (with_reducible refine Below.trans ?_ (Below.mono hb2 ?_)) | (with_reducible refine Below.trans ?_ (Below.mono hb1 ?_)) | (with_reducible refine Below.trans ?_ (Below.mono hbr ?_)) | (with_reducible refine Below.trans ?_ (Below.mono hb ?_)) | (simp; done) | (simp; omega) | omega)), by have := H.out; rw [drop_get s k hlt, escS] at this; show _ = _; simpa using this⟩
          case measure => simp [intOf]; omega
        · have HC := Lib.hid (show escC true s[k] = [35, hexD (s[k].toNat / 16), hexD (s[k].toNat % 16)] by unfold escC; rw [if_neg hna]; rfl)
          have hzr := hbr.size
          have hE := ext1 s k hlt
          clear hna
          go_wp2_with (go_at_call 65; refine (rhexc _ _).mono ?_; rintro e w2 ⟨rfl, hb2⟩)
          go_roundw
          case rel => exact ⟨k + 1, l ++ escC true s[k], by omega, by go_num, val_str (by rw [HC.out]; simp), by have := escC_len true s[k]; simp; omega, (by repeat' (first | (with_reducible exact Below.refl _ _) | (with_reducible refine Below.drew ?_) | (with_reducible refine belowDrewN ?_ _) | (with_reducible refine belowIter ?_ ?_ _ _) | (with_reducible refine Below.setCell ?_ ?_ _) | (with_reducible refine Below.alloc ?_ ?_ _) | (with_reducible refine Below.trans ?_ (Below.mono hb4 ?_)) | (with_reducible refine Below.trans ?_ (Below.mono hb3 ?_)) | (with_reducible refine Below.trans ?_ (Below.mono hb2 ?_)) | (with_reducible refine Below.trans ?_ (Below.mono hb1 ?_)) | (with_reducible refine Below.trans ?_ (Below.mono hbr ?_)) | (with_reducible refine Below.trans ?_ (Below.mono hb ?_)) | (simp; done) | (simp; omega) | omega)), by have := H.out; rw [drop_get s k hlt, escS] at this; show _ = _; simpa using this⟩
          case measure => simp [intOf]; omega
      · skip
        have HC := Lib.hid (show escC nm s[k] = [s[k]] by unfold escC; rw [if_pos (by rw [alnum_nat]; simp; omega)])
        go_wp2
        go_roundw
        case rel => exact ⟨k + 1, l ++ [s[k]], by omega, by go_num, val_str (by rw [ext1 s k hlt]; simp), by simp; omega, hbr, by have := H.out; rw [drop_get s k hlt, escS, HC.out] at this; show _ = _; simpa using this⟩
        case measure => simp [intOf]; omega
      · skip
        have hna : ¬ alnum s[k] = true := by rw [alnum_nat]; simp; omega
        cases nm
        · have hcc : escC false s[k] = [92, UInt8.ofNat (48 + s[k].toNat / 64), UInt8.ofNat (48 + s[k].toNat / 8 % 8), UInt8.ofNat (48 + s[k].toNat % 8)] := by unfold escC; rw [if_neg hna]; rfl
          obtain ⟨o1, o2, o3⟩ := oct3 s[k].toNat (UInt8.toNat_lt _)
          obtain ⟨A1, hA1⟩ : ∃ x, UInt8.ofNat (48 + s[k].toNat / 64) = x := ⟨_, rfl⟩
          obtain ⟨A2, hA2⟩ : ∃ x, UInt8.ofNat (48 + s[k].toNat / 8 % 8) = x := ⟨_, rfl⟩
          obtain ⟨A3, hA3⟩ : ∃ x, UInt8.ofNat (48 + s[k].toNat % 8) = x := ⟨_, rfl⟩
          rw [hA1] at hcc o1
          rw [hA2] at hcc o2
          rw [hA3] at hcc o3
          have HC := Lib.hid hcc
          clear hcc hA1 hA2 hA3
          have hown : ownB (wr.alloc (.cells #[.int .u8 (48 + (s[k].toNat : Int) / 64), .int .u8 (48 + (s[k].toNat : Int) / 8 % 8), .int .u8 (48 + (s[k].toNat : Int) % 8)] 5)) wr.heap.size (.slice (some ⟨wr.heap.size, 0, none⟩) 3 3) [A1, A2, A3] := by
            have := World.ownsRow_lit (e := 5) (size := 1) (base := wr.heap.size) wr #[.int .u8 (48 + (s[k].toNat : Int) / 64), .int .u8 (48 + (s[k].toNat : Int) / 8 % 8), .int .u8 (48 + (s[k].toNat : Int) % 8)] 3 (Nat.le_refl _) (by unfold maxLen; omega) rfl
            rw [← o1, ← o2, ← o3] at this ⊢
            exact this
          have HCV := Lib.hid (convB hown)
          have hzr := hbr.size
          clear hown o1 o2 o3 hna
          go_wp2_with fail
          rw [HCV.out]
          go_wp2
          go_roundw
          case rel => exact ⟨k + 1, l ++ escC false s[k], by omega, by go_num, val_str (by rw [HC.out]; simp), by have := escC_len false s[k]; simp; omega, (by repeat' (first | (with_reducible exact Below.refl _ _) | (with_reducible refine Below.drew ?_) | (with_reducible refine belowDrewN ?_ _) | (with_reducible refine belowIter ?_ ?_ _ _) | (with_reducible refine Below.setCell ?_ ?_ _) | (with_reducible refine Below.alloc ?_ ?_ _) | (with_reducible refine Below.trans ?_ (Below.mono hb4 ?_)) | (with_reducible refine Below.trans ?_ (Below.mono hb3 ?_)) | (with_reducible refine Below.trans ?_ (Below.mono hb2 ?_)) | (with_reducible refine Below.trans ?_ (Below.mono hb1 ?_)) | (with_reducible refine Below.trans ?_ (Below.mono hbr ?_)) | (with_reducible refine Below.trans ?_ (Below.mono hb ?_)) | (simp; done) | (simp; omega) | omega)), by have := H.out; rw [drop_get s k hlt, escS] at this; show _ = _; simpa using this⟩
          case measure => simp [intOf]; omega
        · have HC := Lib.hid (show escC true s[k] = [35, hexD (s[k].toNat / 16), hexD (s[k].toNat % 16)] by unfold escC; rw [if_neg hna]; rfl)
          have hzr := hbr.size
          have hE := ext1 s k hlt
          clear hna
          go_wp2_with (go_at_call 65; refine (rhexc _ _).mono ?_; rintro e w2 ⟨rfl, hb2⟩)
          go_roundw
          case rel => exact ⟨k + 1, l ++ escC true s[k], by omega, by go_num, val_str (by rw [HC.out]; simp), by have := escC_len true s[k]; simp; omega, (by repeat' (first | (with_reducible exact Below.refl _ _) | (with_reducible refine Below.drew ?_) | (with_reducible refine belowDrewN ?_ _) | (with_reducible refine belowIter ?_ ?_ _ _) | (with_reducible refine Below.setCell ?_ ?_ _) | (with_reducible refine Below.alloc ?_ ?_ _) | (with_reducible refine Below.trans ?_ (Below.mono hb4 ?_)) | (with_reducible refine Below.trans ?_ (Below.mono hb3 ?_)) | (with_reducible refine Below.trans ?_ (Below.mono hb2 ?_)) | (with_reducible refine Below.trans ?_ (Below.mono hb1 ?_)) | (with_reducible refine Below.trans ?_ (Below.mono hbr ?_)) | (with_reducible refine Below.trans ?_ (Below.mono hb ?_)) | (simp; done) | (simp; omega) | omega)), by have := H.out; rw [drop_get s k hlt, escS] at this; show _ = _; simpa using this⟩
          case measure => simp [intOf]; omega
      · skip
        have HC := Lib.hid (show escC nm s[k] = [s[k]] by unfold escC; rw [if_pos (by rw [alnum_nat]; simp; omega)])
        go_wp2
        go_roundw
        case rel => exact ⟨k + 1, l ++ [s[k]], by omega, by go_num, val_str (by rw [ext1 s k hlt]; simp), by simp; omega, hbr, by have := H.out; rw [drop_get s k hlt, escS, HC.out] at this; show _ = _; simpa using this⟩
        case measure => simp [intOf]; omega
      · skip
        have hna : ¬ alnum s[k] = true := by rw [alnum_nat]; simp; omega
        cases nm
        · have hcc : escC false s[k] = [92, UInt8.ofNat (48 + s[k].toNat / 64), UInt8.ofNat (48 + s[k].toNat / 8 % 8), UInt8.ofNat (48 + s[k].toNat % 8)] := by unfold escC; rw [if_neg hna]; rfl
          obtain ⟨o1, o2, o3⟩ := oct3 s[k].toNat (UInt8.toNat_lt _)
          obtain ⟨A1, hA1⟩ : ∃ x, UInt8.ofNat (48 + s[k].toNat / 64) = x := ⟨_, rfl⟩
          obtain ⟨A2, hA2⟩ : ∃ x, UInt8.ofNat (48 + s[k].toNat / 8 % 8) = x := ⟨_, rfl⟩
          obtain ⟨A3, hA3⟩ : ∃ x, UInt8.ofNat (48 + s[k].toNat % 8) = x := ⟨_, rfl⟩
          rw [hA1] at hcc o1
          rw [hA2] at hcc o2
          rw [hA3] at hcc o3
          have HC := Lib.hid hcc
          clear hcc hA1 hA2 hA3
          have hown : ownB (wr.alloc (.cells #[.int .u8 (48 + (s[k].toNat : Int) / 64), .int .u8 (48 + (s[k].toNat : Int) / 8 % 8), .int .u8 (48 + (s[k].toNat : Int) % 8)] 5)) wr.heap.size (.slice (some ⟨wr.heap.size, 0, none⟩) 3 3) [A1, A2, A3] := by
            have := World.ownsRow_lit (e := 5) (size := 1) (base := wr.heap.size) wr #[.int .u8 (48 + (s[k].toNat : Int) / 64), .int .u8 (48 + (s[k].toNat : Int) / 8 % 8), .int .u8 (48 + (s[k].toNat : Int) % 8)] 3 (Nat.le_refl _) (by unfold maxLen; omega) rfl
            rw [← o1, ← o2, ← o3] at this ⊢
            exact this
          have HCV := Lib.hid (convB hown)
          have hzr := hbr.size
          clear hown o1 o2 o3 hna
          go_wp2_with fail
          rw [HCV.out]
          go_wp2
          go_roundw
          case rel => exact ⟨k + 1, l ++ escC false s[k], by omega, by go_num, val_str (by rw [HC.out]; simp), by have := escC_len false s[k]; simp; omega, (by repeat' (first | (with_reducible exact Below.refl _ _) | (with_reducible refine Below.drew ?_) | (with_reducible refine belowDrewN ?_ _) | (with_reducible refine belowIter ?_ ?_ _ _) | (with_reducible refine Below.setCell ?_ ?_ _) | (with_reducible refine Below.alloc ?_ ?_ _) | (with_reducible refine Below.trans ?_ (Below.mono hb4 ?_)) | (with_reducible refine Below.trans ?_ (Below.mono hb3 ?_)) | (with_reducible refine Below.trans ?_ (Below.mono hb2 ?_)) | (with_reducible refine Below.trans ?_ (Below.mono hb1 ?_)) | (with_reducible refine Below.trans ?_ (Below.mono hbr ?_)) | (with_reducible refine Below.trans ?_ (Below.mono hb ?_)) | (simp; done) | (simp; omega) | omega)), by have := H.out; rw [drop_get s k hlt, escS] at this; show _ = _; simpa using this⟩
          case measure => simp [intOf]; omega
        · have HC := Lib.hid (show escC true s[k] = [35, hexD (s[k].toNat / 16), hexD (s[k].toNat % 16)] by unfold escC; rw [if_neg hna]; rfl)
          have hzr := hbr.size
          have hE := ext1 s k hlt
          clear hna
          go_wp2_with (go_at_call 65; refine (rhexc _ _).mono ?_; rintro e w2 ⟨rfl, hb2⟩)
          go_roundw
          case rel => exact ⟨k + 1, l ++ escC true s[k], by omega, by go_num, val_str (by rw [HC.out]; simp), by have := escC_len true s[k]; simp; omega, (by repeat' (first | (with_reducible exact Below.refl _ _) | (with_reducible refine Below.drew ?_) | (with_reducible refine belowDrewN ?_ _) | (with_reducible refine belowIter ?_ ?_ _ _) | (with_reducible refine Below.setCell ?_ ?_ _) | (with_reducible refine Below.alloc ?_ ?_ _) | (with_reducible refine Below.trans ?_ (Below.mono hb4 ?_)) | (with_reducible refine Below.trans ?_ (Below.mono hb3 ?_)) | (with_reducible refine Below.trans ?_ (Below.mono hb2 ?_)) | (with_reducible refine Below.trans ?_ (Below.mono hb1 ?_)) | (with_reducible refine Below.trans ?_ (Below.mono hbr ?_)) | (with_reducible refine Below.trans ?_ (Below.mono hb ?_)) | (simp; done) | (simp; omega) | omega)), by have := H.out; rw [drop_get s k hlt, escS] at this; show _ = _; simpa using this⟩
          case measure => simp [intOf]; omega
      · skip
        have HC := Lib.hid (show escC nm s[k] = [s[k]] by unfold escC; rw [if_pos (by rw [alnum_nat]; simp; omega)])
        go_wp2
        go_roundw
        case rel => exact ⟨k + 1, l ++ [s[k]], by omega, by go_num, val_str (by rw [ext1 s k hlt]; simp), by simp; omega, hbr, by have := H.out; rw [drop_get s k hlt, escS, HC.out] at this; show _ = _; simpa using this⟩
        case measure => simp [intOf]; omega
      · skip
        have hna : ¬ alnum s[k] = true := by rw [alnum_nat]; simp; omega
        cases nm
        · have hcc : escC false s[k] = [92, UInt8.ofNat (48 + s[k].toNat / 64), UInt8.ofNat (48 + s[k].toNat / 8 % 8), UInt8.ofNat (48 + s[k].toNat % 8)] := by unfold escC; rw [if_neg hna]; rfl
          obtain ⟨o1, o2, o3⟩ := oct3 s[k].toNat (UInt8.toNat_lt _)
          obtain ⟨A1, hA1⟩ : ∃ x, UInt8.ofNat (48 + s[k].toNat / 64) = x := ⟨_, rfl⟩
          obtain ⟨A2, hA2⟩ : ∃ x, UInt8.ofNat (48 + s[k].toNat / 8 % 8) = x := ⟨_, rfl⟩
          obtain ⟨A3, hA3⟩ : ∃ x, UInt8.ofNat (48 + s[k].toNat % 8) = x := ⟨_, rfl⟩
          rw [hA1] at hcc o1
          rw [hA2] at hcc o2
          rw [hA3] at hcc o3
          have HC := Lib.hid hcc
          clear hcc hA1 hA2 hA3
          have hown : ownB (wr.alloc (.cells #[.int .u8 (48 + (s[k].toNat : Int) / 64), .int .u8 (48 + (s[k].toNat : Int) / 8 % 8), .int .u8 (48 + (s[k].toNat : Int) % 8)] 5)) wr.heap.size (.slice (some ⟨wr.heap.size, 0, none⟩) 3 3) [A1, A2, A3] := by
            have := World.ownsRow_lit (e := 5) (size := 1) (base := wr.heap.size) wr #[.int .u8 (48 + (s[k].toNat : Int) / 64), .int .u8 (48 + (s[k].toNat : Int) / 8 % 8), .int .u8 (48 + (s[k].toNat : Int) % 8)] 3 (Nat.le_refl _) (by unfold maxLen; omega) rfl
            rw [← o1, ← o2, ← o3] at this ⊢
            exact this
          have HCV := Lib.hid (convB hown)
          have hzr := hbr.size
          clear hown o1 o2 o3 hna
          go_wp2_with fail
          rw [HCV.out]
          go_wp2
          go_roundw
          case rel => exact ⟨k + 1, l ++ escC false s[k], by omega, by go_num, val_str (by rw [HC.out]; simp), by have := escC_len false s[k]; simp; omega, (by repeat' (first | (with_reducible exact Below.refl _ _) | (with_reducible refine Below.drew ?_) | (with_reducible refine belowDrewN ?_ _) | (with_reducible refine belowIter ?_ ?_ _ _) | (with_reducible refine Below.setCell ?_ ?_ _) | (with_reducible refine Below.alloc ?_ ?_ _) | (with_reducible refine Below.trans ?_ (Below.mono hb4 ?_)) | (with_reducible refine Below.trans ?_ (Below.mono hb3 ?_)) | (with_reducible refine Below.trans ?_ (Below.mono hb2 ?_)) | (with_reducible refine Below.trans ?_ (Below.mono hb1 ?_)) | (with_reducible refine Below.trans ?_ (Below.mono hbr ?_)) | (with_reducible refine Below.trans ?_ (Below.mono hb ?_)) | (simp; done) | (simp; omega) | omega)), by have := H.out; rw [drop_get s k hlt, escS] at this; show _ = _; simpa using this⟩
          case measure => simp [intOf]; omega
        · have HC := Lib.hid (show escC true s[k] = [35, hexD (s[k].toNat / 16), hexD (s[k].toNat % 16)] by unfold escC; rw [if_neg hna]; rfl)
          have hzr := hbr.size
          have hE := ext1 s k hlt
          clear hna
          go_wp2_with (go_at_call 65; refine (rhexc _ _).mono ?_; rintro e w2 ⟨rfl, hb2⟩)
          go_roundw
          case rel => exact ⟨k + 1, l ++ escC true s[k], by omega, by go_num, val_str (by rw [HC.out]; simp), by have := escC_len true s[k]; simp; omega, (by repeat' (first | (with_reducible exact Below.refl _ _) | (with_reducible refine Below.drew ?_) | (with_reducible refine belowDrewN ?_ _) | (with_reducible refine belowIter ?_ ?_ _ _) | (with_reducible refine Below.setCell ?_ ?_ _) | (with_reducible refine Below.alloc ?_ ?_ _) | (with_reducible refine Below.trans ?_ (Below.mono hb4 ?_)) | (with_reducible refine Below.trans ?_ (Below.mono hb3 ?_)) | (with_reducible refine Below.trans ?_ (Below.mono hb2 ?_)) | (with_reducible refine Below.trans ?_ (Below.mono hb1 ?_)) | (with_reducible refine Below.trans ?_ (Below.mono hbr ?_)) | (with_reducible refine Below.trans ?_ (Below.mono hb ?_)) | (simp; done) | (simp; omega) | omega)), by have := H.out; rw [drop_get s k hlt, escS] at this; show _ = _; simpa using this⟩
          case measure => simp [intOf]; omega
    · have HX := Lib.hid (show l = T by have := H.out; rw [List.drop_eq_nil_of_le (by simp; omega)] at this; simpa [escS] using this)
      clear H
      go_wp2
      go_ret
      exact ⟨by rw [HX.out]; rfl, hbr⟩
end Go.Proofs.YtpadlepdgnlgnaaGreatDoor
