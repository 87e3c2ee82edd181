/- The walks of lex's hexadecimal and literal strings. -/
import Derived.Test.YtpadlepdgnlgnaaGreatDoorEsc
import Derived.Deep.RegionWith
set_option linter.all false
namespace Go.Proofs.YtpadlepdgnlgnaaGreatDoor
open Go.RowKit Fo

theorem hexS_end {acc : L} {n : Nat} {h : Int} : hexS acc n h [] = .bad 4 := by simp [hexS]
theorem hexS_shut {acc : L} {n : Nat} {h : Int} {c : UInt8} {l : L} (hc : c = 62) : hexS acc n h (c :: l) = .good (if 0 ≤ h then acc ++ [UInt8.ofNat (16 * h).toNat] else acc, n + 1) := by simp [hexS, hc]
theorem hexS_white {acc : L} {n : Nat} {h : Int} {c : UInt8} {l : L} (hc : ¬ c = 62) (hw : white c = true) : hexS acc n h (c :: l) = hexS acc (n + 1) h l := by simp [hexS, hc, hw]
theorem hexS_bad {acc : L} {n : Nat} {h : Int} {c : UInt8} {l : L} (hc : ¬ c = 62) (hw : white c = false) (hx : hexv c < (0 : Int)) : hexS acc n h (c :: l) = .bad 3 := by simp [hexS, hc, hw, hx]
theorem hexS_half {acc : L} {n : Nat} {h : Int} {c : UInt8} {l : L} (hc : ¬ c = 62) (hw : white c = false) (hx : ¬ hexv c < (0 : Int)) (hh : h < 0) : hexS acc n h (c :: l) = hexS acc (n + 1) (hexv c) l := by simp [hexS, hc, hw, hx, hh]
theorem hexS_both {acc : L} {n : Nat} {h : Int} {c : UInt8} {l : L} (hc : ¬ c = 62) (hw : white c = false) (hx : ¬ hexv c < (0 : Int)) (hh : ¬ h < 0) : hexS acc n h (c :: l) = hexS (acc ++ [UInt8.ofNat (16 * h + hexv c).toNat]) (n + 1) (-1) l := by simp [hexS, hc, hw, hx, hh]
theorem nib0 : ∀ d, d < 16 → wrap64 ((d : Nat) * 16) % 256 = 16 * (d : Int) := by decide +kernel
theorem nib0_int {d : Int} (h0 : 0 ≤ d) (h1 : d < 16) : wrap64 (d * 16) % 256 = 16 * d := by
  have := nib0 d.toNat (by omega)
  rwa [Int.toNat_of_nonneg h0] at this
theorem nib2 : ∀ d, d < 16 → ∀ e, e < 16 → bits BinOp.or IntKind.i64 ((d : Nat) * 16) (e : Nat) % 256 = 16 * (d : Int) + e := by decide +kernel
theorem nib2_int {d e : Int} (h0 : 0 ≤ d) (h1 : d < 16) (h2 : 0 ≤ e) (h3 : e < 16) : bits BinOp.or IntKind.i64 (d * 16) e % 256 = 16 * d + e := by
  have := nib2 d.toNat (by omega) e.toNat (by omega)
  rwa [Int.toNat_of_nonneg h0, Int.toNat_of_nonneg h2] at this
theorem digit_at (c : UInt8) (w : World) :
    Calls Tryz.prog 79 #[.int .u8 c.toNat] w fun e w' => e = .returned (.int .i64 (hexv c)) ∧ w' = w := digit_any c.toNat (UInt8.toNat_lt c) w
theorem hexv_lt (c : UInt8) : hexv c < (16 : Int) := digit_lt c.toNat
theorem hexv_ge (c : UInt8) : (-1 : Int) ≤ hexv c := by unfold hexv digit; (repeat' split) <;> omega

set_option maxRecDepth 100000 in
set_option maxHeartbeats 2000000 in
theorem hex_in (s : ByteArray) (a : Nat) (ha : a < s.size) (hs : s.size ≤ 140737488355327) (w : World) :
    Calls Tryz.prog 50 #[.agg #[.string s, .int .i64 a]] w fun e w' => e = .returned (tokR a (hexT (s.data.toList.drop (a + 1)))) ∧ Below w.heap.size w w' := by
  unfold hexT
  obtain ⟨T, hT⟩ : ∃ T, hexS [] 0 (-1) (s.data.toList.drop (a + 1)) = T := ⟨_, rfl⟩
  rw [hT]
  have HT := Lib.hid hT; clear hT
  go_enter Tryz.func50, Tryz.ntmps50
  go_wp2
  obtain ⟨w1, hw1⟩ : ∃ w1, ((w.alloc (.cells #[.string s, .int .i64 a] 73)).alloc (.cells #[.int .i64 0, .int .i64 0, .int .i64 0, .int .i64 0, .string ⟨#[]⟩] 52)) = w1 := ⟨_, rfl⟩
  have hB1 : w.heap.size + 2 ≤ w1.heap.size := by rw [← hw1]; simp
  have hb : Below w.heap.size w w1 := by rw [← hw1]; exact (by repeat' (first | (with_reducible exact Below.refl _ _) | (with_reducible refine Below.drew ?_) | (with_reducible refine belowDrewN ?_ _) | (with_reducible refine belowIter ?_ ?_ _ _) | (with_reducible refine Below.setCell ?_ ?_ _) | (with_reducible refine Below.alloc ?_ ?_ _) | (with_reducible refine Below.trans ?_ (Below.mono hb4 ?_)) | (with_reducible refine Below.trans ?_ (Below.mono hb3 ?_)) | (with_reducible refine Below.trans ?_ (Below.mono hb2 ?_)) | (with_reducible refine Below.trans ?_ (Below.mono hb1 ?_)) | (with_reducible refine Below.trans ?_ (Below.mono hbr ?_)) | (with_reducible refine Below.trans ?_ (Below.mono hb ?_)) | (simp; done) | (simp; omega) | omega))
  have c0 : w1.cell? ⟨w.heap.size, 0, none⟩ = some (.string s) := by rw [← hw1]; simp [go_sem]
  have c1 : w1.cell? ⟨w.heap.size, 1, none⟩ = some (.int .i64 a) := by rw [← hw1]; simp [go_sem]
  have d0 : w1.cell? ⟨w.heap.size + 1, 0, none⟩ = some (.int .i64 0) := by rw [← hw1]; simp [go_sem]
  have d1 : w1.cell? ⟨w.heap.size + 1, 1, none⟩ = some (.int .i64 0) := by rw [← hw1]; simp [go_sem]
  have d2 : w1.cell? ⟨w.heap.size + 1, 2, none⟩ = some (.int .i64 0) := by rw [← hw1]; simp [go_sem]
  have d3 : w1.cell? ⟨w.heap.size + 1, 3, none⟩ = some (.int .i64 0) := by rw [← hw1]; simp [go_sem]
  have d4 : w1.cell? ⟨w.heap.size + 1, 4, none⟩ = some (.string ⟨#[]⟩) := by rw [← hw1]; simp [go_sem]
  have df : ∀ o, w1.frozen? ⟨w.heap.size + 1, o, none⟩ = false := fun o => by rw [← hw1]; simp [go_sem]
  rw [hw1]
  clear hw1
  go_loopw [4, 5, 6] (fun v h i wr => ∃ (k : Nat) (acc : L) (hf : Int), a + 1 ≤ k ∧ k ≤ s.size ∧ -1 ≤ hf ∧ hf < 16 ∧ i = .int .i64 k ∧ h = .int .i64 hf ∧ ownB wr (w.heap.size + 2) v acc ∧ acc.length ≤ k ∧ Below (w.heap.size + 2) w1 wr ∧ Hid (hexS acc (k - (a + 1)) hf (s.data.toList.drop k) = T)) (fun _ _ i _ => s.size - (intOf i).toNat)
  case atStart => exact ⟨a + 1, [], -1, by omega, by omega, by omega, by omega, by go_num, by go_num, ownB_nil _ _, by simp, Below.refl _ _, by rw [Nat.sub_self]; exact HT⟩
  case round =>
    obtain ⟨k, acc, hf, hk1, hk2, hh1, hh2, rfl, rfl, hown, hacc, hbr, H⟩ := hrel
    have hBr : w.heap.size + 2 ≤ wr.heap.size := Nat.le_trans hB1 hbr.size
    obtain ⟨hcr, hfr⟩ := bcellB hbr
    clear HT
    by_cases hlt : k < s.size
    · have H1 := H.out
      rw [drop_get s k hlt] at H1
      have hn1 : k - (a + 1) + 1 = k + 1 - (a + 1) := by omega
      by_cases h62 : s[k] = 62
      · have t62 : ((s[k].toNat : Int) == 62) = true := eq_yes (n := 62) (by decide) h62
        rw [hexS_shut h62] at H1
        clear h62 H hn1
        by_cases hhf : 0 ≤ hf
        · rw [if_pos hhf] at H1
          obtain ⟨acc2, hacc2⟩ : ∃ acc2, acc ++ [UInt8.ofNat (16 * hf).toNat] = acc2 := ⟨_, rfl⟩
          have hl2 : acc2.length ≤ k + 1 := by rw [← hacc2]; simp; omega
          rw [hacc2] at H1
          have Hn := Lib.hid (show acc ++ [UInt8.ofNat (hf * 16).toNat] = acc2 by rw [Int.mul_comm]; exact hacc2)
          have HX := Lib.hid H1.symm
          clear H1 hacc2
          go_wp2_with (first | (at_builtin; refine append1 rfl _ _ rfl (w.heap.size + 2) _ acc _ hown rfl rfl (by omega) hBr (by omega) (by omega) ?_; intro v3 w3 hown3 hb3 hz3; replace hb3 := hbr.trans hb3; have hB3 := Nat.le_trans hB1 hb3.size; obtain ⟨hc3, hf3⟩ := bcellB hb3; rw [Hn.out] at hown3; have hcv := convB hown3))
          by_cases h127 : acc2.length ≤ 32767
          · go_wp2_with (first | (go_at_call 78; refine (told_in s a 3 _ _ 32767 (by unfold maxLen; simp [ByteArray.size]; omega) _ (by simpa [ByteArray.size] using h127)).mono ?_; rintro e w4 ⟨rfl, hb4⟩; replace hb4 := hb3.trans (hb4.mono hB3); obtain ⟨hc4, hf4⟩ := bcellB hb4))
            refine bodyPost_ret (v := .tuple #[.agg #[.int .i64 3, .int .i64 a, .int .i64 (k + 1), .int .i64 0, .string ⟨acc2.toArray⟩], .int .i64 0]) (by simp [results, Tryz.results50, go_sem, hc4, hf4, d0, d1, d2, d3, d4, df]) rfl ⟨?_, (by repeat' (first | (with_reducible exact Below.refl _ _) | (with_reducible refine Below.drew ?_) | (with_reducible refine belowDrewN ?_ _) | (with_reducible refine belowIter ?_ ?_ _ _) | (with_reducible refine Below.setCell ?_ ?_ _) | (with_reducible refine Below.alloc ?_ ?_ _) | (with_reducible refine Below.trans ?_ (Below.mono hb4 ?_)) | (with_reducible refine Below.trans ?_ (Below.mono hb3 ?_)) | (with_reducible refine Below.trans ?_ (Below.mono hb2 ?_)) | (with_reducible refine Below.trans ?_ (Below.mono hb1 ?_)) | (with_reducible refine Below.trans ?_ (Below.mono hbr ?_)) | (with_reducible refine Below.trans ?_ (Below.mono hb ?_)) | (simp; done) | (simp; omega) | omega))⟩
            rw [HX.out]; simp only [strOf, told, if_neg (show ¬ 32767 < acc2.length by omega), tokR]
            congr; omega
          · go_wp2_with (first | (go_at_call 78; refine (told_long s a 3 _ _ 32767 (by unfold maxLen; simp [ByteArray.size]; omega) _ (by simp [ByteArray.size]; omega)).mono ?_; rintro e w4 ⟨rfl, hb4⟩; replace hb4 := hb3.trans (hb4.mono hB3); obtain ⟨hc4, hf4⟩ := bcellB hb4))
            refine bodyPost_ret (v := .tuple #[.agg #[.int .i64 0, .int .i64 0, .int .i64 0, .int .i64 0, .string ⟨#[]⟩], .int .i64 5]) (by simp [results, Tryz.results50, go_sem, hc4, hf4, d0, d1, d2, d3, d4, df]) rfl ⟨?_, (by repeat' (first | (with_reducible exact Below.refl _ _) | (with_reducible refine Below.drew ?_) | (with_reducible refine belowDrewN ?_ _) | (with_reducible refine belowIter ?_ ?_ _ _) | (with_reducible refine Below.setCell ?_ ?_ _) | (with_reducible refine Below.alloc ?_ ?_ _) | (with_reducible refine Below.trans ?_ (Below.mono hb4 ?_)) | (with_reducible refine Below.trans ?_ (Below.mono hb3 ?_)) | (with_reducible refine Below.trans ?_ (Below.mono hb2 ?_)) | (with_reducible refine Below.trans ?_ (Below.mono hb1 ?_)) | (with_reducible refine Below.trans ?_ (Below.mono hbr ?_)) | (with_reducible refine Below.trans ?_ (Below.mono hb ?_)) | (simp; done) | (simp; omega) | omega))⟩
            rw [HX.out]; simp only [strOf, told, if_pos (show 32767 < acc2.length by omega), tokR]
        · rw [if_neg hhf] at H1
          obtain ⟨acc2, hacc2⟩ : ∃ acc2, acc = acc2 := ⟨_, rfl⟩
          have hl2 : acc2.length ≤ k + 1 := by rw [← hacc2]; omega
          rw [hacc2] at H1
          have hown3 : ownB wr (w.heap.size + 2) u4 acc2 := by rw [← hacc2]; exact hown
          have HX := Lib.hid H1.symm
          have hb3 := hbr
          have hB3 := hBr
          have hc3 := hcr
          have hf3 := hfr
          have hcv := convB hown3
          clear H1 hacc2
          by_cases h127 : acc2.length ≤ 32767
          · go_wp2_with (first | (go_at_call 78; refine (told_in s a 3 _ _ 32767 (by unfold maxLen; simp [ByteArray.size]; omega) _ (by simpa [ByteArray.size] using h127)).mono ?_; rintro e w4 ⟨rfl, hb4⟩; replace hb4 := hb3.trans (hb4.mono hB3); obtain ⟨hc4, hf4⟩ := bcellB hb4))
            refine bodyPost_ret (v := .tuple #[.agg #[.int .i64 3, .int .i64 a, .int .i64 (k + 1), .int .i64 0, .string ⟨acc2.toArray⟩], .int .i64 0]) (by simp [results, Tryz.results50, go_sem, hc4, hf4, d0, d1, d2, d3, d4, df]) rfl ⟨?_, (by repeat' (first | (with_reducible exact Below.refl _ _) | (with_reducible refine Below.drew ?_) | (with_reducible refine belowDrewN ?_ _) | (with_reducible refine belowIter ?_ ?_ _ _) | (with_reducible refine Below.setCell ?_ ?_ _) | (with_reducible refine Below.alloc ?_ ?_ _) | (with_reducible refine Below.trans ?_ (Below.mono hb4 ?_)) | (with_reducible refine Below.trans ?_ (Below.mono hb3 ?_)) | (with_reducible refine Below.trans ?_ (Below.mono hb2 ?_)) | (with_reducible refine Below.trans ?_ (Below.mono hb1 ?_)) | (with_reducible refine Below.trans ?_ (Below.mono hbr ?_)) | (with_reducible refine Below.trans ?_ (Below.mono hb ?_)) | (simp; done) | (simp; omega) | omega))⟩
            rw [HX.out]; simp only [strOf, told, if_neg (show ¬ 32767 < acc2.length by omega), tokR]
            congr; omega
          · go_wp2_with (first | (go_at_call 78; refine (told_long s a 3 _ _ 32767 (by unfold maxLen; simp [ByteArray.size]; omega) _ (by simp [ByteArray.size]; omega)).mono ?_; rintro e w4 ⟨rfl, hb4⟩; replace hb4 := hb3.trans (hb4.mono hB3); obtain ⟨hc4, hf4⟩ := bcellB hb4))
            refine bodyPost_ret (v := .tuple #[.agg #[.int .i64 0, .int .i64 0, .int .i64 0, .int .i64 0, .string ⟨#[]⟩], .int .i64 5]) (by simp [results, Tryz.results50, go_sem, hc4, hf4, d0, d1, d2, d3, d4, df]) rfl ⟨?_, (by repeat' (first | (with_reducible exact Below.refl _ _) | (with_reducible refine Below.drew ?_) | (with_reducible refine belowDrewN ?_ _) | (with_reducible refine belowIter ?_ ?_ _ _) | (with_reducible refine Below.setCell ?_ ?_ _) | (with_reducible refine Below.alloc ?_ ?_ _) | (with_reducible refine Below.trans ?_ (Below.mono hb4 ?_)) | (with_reducible refine Below.trans ?_ (Below.mono hb3 ?_)) | (with_reducible refine Below.trans ?_ (Below.mono hb2 ?_)) | (with_reducible refine Below.trans ?_ (Below.mono hb1 ?_)) | (with_reducible refine Below.trans ?_ (Below.mono hbr ?_)) | (with_reducible refine Below.trans ?_ (Below.mono hb ?_)) | (simp; done) | (simp; omega) | omega))⟩
            rw [HX.out]; simp only [strOf, told, if_pos (show 32767 < acc2.length by omega), tokR]
      · have t62 : ((s[k].toNat : Int) == 62) = false := eq_no (n := 62) (by decide) h62
        cases hw : white s[k]
        · by_cases hx : hexv s[k] < (0 : Int)
          · have HX := Lib.hid (H1.symm.trans (hexS_bad h62 hw hx))
            have hw2 := Lib.hid hw
            clear h62 H H1 hw
            go_wp2_with (first | (go_at_call 79; refine (digit_at _ _).mono ?_; rintro e w' ⟨rfl, rfl⟩) | (go_at_call 56; refine (white_no _ hw2.out _).mono ?_; rintro e w' ⟨rfl, rfl⟩) | (go_at_call 47; refine (refused_in _ _).mono ?_; rintro e w3 ⟨rfl, hb3⟩; replace hb3 := hbr.trans (hb3.mono hBr); obtain ⟨hc3, hf3⟩ := bcellB hb3))
            refine bodyPost_ret (v := .tuple #[.agg #[.int .i64 0, .int .i64 0, .int .i64 0, .int .i64 0, .string ⟨#[]⟩], .int .i64 3]) (by simp [results, Tryz.results50, go_sem, hc3, hf3, d0, d1, d2, d3, d4, df]) rfl ⟨by rw [HX.out]; rfl, (by repeat' (first | (with_reducible exact Below.refl _ _) | (with_reducible refine Below.drew ?_) | (with_reducible refine belowDrewN ?_ _) | (with_reducible refine belowIter ?_ ?_ _ _) | (with_reducible refine Below.setCell ?_ ?_ _) | (with_reducible refine Below.alloc ?_ ?_ _) | (with_reducible refine Below.trans ?_ (Below.mono hb4 ?_)) | (with_reducible refine Below.trans ?_ (Below.mono hb3 ?_)) | (with_reducible refine Below.trans ?_ (Below.mono hb2 ?_)) | (with_reducible refine Below.trans ?_ (Below.mono hb1 ?_)) | (with_reducible refine Below.trans ?_ (Below.mono hbr ?_)) | (with_reducible refine Below.trans ?_ (Below.mono hb ?_)) | (simp; done) | (simp; omega) | omega))⟩
          · have hd1 := hexv_lt s[k]
            by_cases hhf : hf < 0
            · have HX := Lib.hid (H1.symm.trans ((hexS_half h62 hw hx hhf).trans (by rw [hn1])))
              have hw2 := Lib.hid hw
              clear h62 H H1 hw hn1
              go_wp2_with (first | (go_at_call 79; refine (digit_at _ _).mono ?_; rintro e w' ⟨rfl, rfl⟩) | (go_at_call 56; refine (white_no _ hw2.out _).mono ?_; rintro e w' ⟨rfl, rfl⟩))
              go_roundw
              case rel => exact ⟨k + 1, acc, hexv s[k], by omega, by omega, by omega, by omega, by go_num, rfl, hown, by omega, hbr, HX.out.symm⟩
              case measure => simp [intOf]; omega
            · have HX := Lib.hid (H1.symm.trans ((hexS_both h62 hw hx hhf).trans (by rw [hn1])))
              have hw2 := Lib.hid hw
              clear h62 H H1 hw hn1
              go_wp2_with (first | (go_at_call 79; refine (digit_at _ _).mono ?_; rintro e w' ⟨rfl, rfl⟩) | (go_at_call 56; refine (white_no _ hw2.out _).mono ?_; rintro e w' ⟨rfl, rfl⟩) | (at_builtin; go_must (refine append1 rfl _ _ rfl (w.heap.size + 2) _ acc _ hown rfl rfl (by omega) hBr (by omega) (by omega) ?_); intro v3 w3 hown3 hb3 hz3; replace hb3 := hbr.trans hb3))
              go_roundw
              case rel => exact ⟨k + 1, acc ++ [UInt8.ofNat (16 * hf + hexv s[k]).toNat], -1, by omega, by omega, by omega, by omega, by go_num, by go_num, by rw [nib2_int (by omega) hh2 (by omega) hd1] at hown3; exact hown3, by simp; omega, hb3, HX.out.symm⟩
              case measure => simp [intOf]; omega
        · have HX := Lib.hid (H1.symm.trans ((hexS_white h62 hw).trans (by rw [hn1])))
          have hw2 := Lib.hid hw
          clear h62 H H1 hw hn1
          go_wp2_with (first | (go_at_call 79; refine (digit_at _ _).mono ?_; rintro e w' ⟨rfl, rfl⟩) | (go_at_call 56; refine (white_yes _ hw2.out _).mono ?_; rintro e w' ⟨rfl, rfl⟩))
          go_roundw
          case rel => exact ⟨k + 1, acc, hf, by omega, by omega, by omega, by omega, by go_num, rfl, hown, by omega, hbr, HX.out.symm⟩
          case measure => simp [intOf]; omega
    · have HX := Lib.hid (show T = .bad 4 by have := H.out; rw [List.drop_eq_nil_of_le (by simp; omega), hexS_end] at this; exact this.symm)
      clear H
      go_wp2_with (go_at_call 47; refine (refused_in _ _).mono ?_; rintro e w3 ⟨rfl, hb3⟩; replace hb3 := hbr.trans (hb3.mono hBr); obtain ⟨hc3, hf3⟩ := bcellB hb3)
      refine bodyPost_ret (v := .tuple #[.agg #[.int .i64 0, .int .i64 0, .int .i64 0, .int .i64 0, .string ⟨#[]⟩], .int .i64 4]) (by simp [results, Tryz.results50, go_sem, hc3, hf3, d0, d1, d2, d3, d4, df]) rfl ⟨by rw [HX.out]; rfl, (by repeat' (first | (with_reducible exact Below.refl _ _) | (with_reducible refine Below.drew ?_) | (with_reducible refine belowDrewN ?_ _) | (with_reducible refine belowIter ?_ ?_ _ _) | (with_reducible refine Below.setCell ?_ ?_ _) | (with_reducible refine Below.alloc ?_ ?_ _) | (with_reducible refine Below.trans ?_ (Below.mono hb4 ?_)) | (with_reducible refine Below.trans ?_ (Below.mono hb3 ?_)) | (with_reducible refine Below.trans ?_ (Below.mono hb2 ?_)) | (with_reducible refine Below.trans ?_ (Below.mono hb1 ?_)) | (with_reducible refine Below.trans ?_ (Below.mono hbr ?_)) | (with_reducible refine Below.trans ?_ (Below.mono hb ?_)) | (simp; done) | (simp; omega) | omega))⟩
end Go.Proofs.YtpadlepdgnlgnaaGreatDoor
