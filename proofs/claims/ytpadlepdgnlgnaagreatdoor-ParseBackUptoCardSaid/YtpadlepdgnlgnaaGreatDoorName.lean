/- The walk of lex's name reader. -/
import Derived.Test.YtpadlepdgnlgnaaGreatDoorUnhex
set_option linter.all false
namespace Go.Proofs.YtpadlepdgnlgnaaGreatDoor
open Go.RowKit Fo

/-- What a token function hands back, its place being a. -/
def tokR (a : Nat) : Res Tok → Value
  | .bad e => .tuple #[.agg #[.int .i64 0, .int .i64 0, .int .i64 0, .int .i64 0, .string ⟨#[]⟩], .int .i64 e]
  | .good t => .tuple #[.agg #[.int .i64 t.kind, .int .i64 a, .int .i64 (a + t.len : Nat), .int .i64 t.n, .string ⟨t.s.toArray⟩], .int .i64 0]

/-- The bytes from k up to 'to'. -/
def cutL (s : ByteArray) (k to : Nat) : L := (s.data.toList.drop k).take (to - k)
theorem cutL_cons (s : ByteArray) (k to : Nat) (h : k < to) (ht : to ≤ s.size) : cutL s k to = s[k] :: cutL s (k + 1) to := by
  unfold cutL
  rw [drop_get s k (by omega), show to - k = (to - (k + 1)) + 1 by omega, List.take_succ_cons]
theorem cutL_nil (s : ByteArray) (k : Nat) : cutL s k k = [] := by simp [cutL]
theorem nameS_end {acc : L} : nameS acc 0 [] = .good acc := by simp [nameS]
theorem nameS_plain {acc : L} {c : UInt8} {l : L} (h : ¬ c = 35) : nameS acc 0 (c :: l) = nameS (acc ++ [c]) 0 l := by simp [nameS, h]
theorem nameS_short {acc : L} {s : ByteArray} {k to : Nat} (h : k < to) (ht : to ≤ s.size) (hc : s[k] = 35) (h2 : to ≤ k + 2) : nameS acc 0 (cutL s k to) = .bad 3 := by
  rw [cutL_cons s k to h ht, hc]
  have hl : (cutL s (k + 1) to).length ≤ 1 := by simp [cutL]; omega
  cases hx : cutL s (k + 1) to with
  | nil => simp [nameS]
  | cons a l =>
    cases l with
    | nil => simp [nameS]
    | cons b l => rw [hx] at hl; simp at hl
theorem nameS_bad {acc : L} {s : ByteArray} {k to : Nat} (h : k + 2 < to) (ht : to ≤ s.size) (hc : s[k] = 35) (h2 : hexv s[k + 1] < (0 : Int) ∨ hexv s[k + 2] < (0 : Int) ∨ (16 : Int) * hexv s[k + 1] + hexv s[k + 2] = (0 : Int)) : nameS acc 0 (cutL s k to) = .bad 3 := by
  rw [cutL_cons s k to (by omega) ht, hc, cutL_cons s (k + 1) to (by omega) ht, cutL_cons s (k + 2) to (by omega) ht]
  simp [nameS, h2]
theorem nameS_hex {acc : L} {s : ByteArray} {k to : Nat} (h : k + 2 < to) (ht : to ≤ s.size) (hc : s[k] = 35) (h2 : ¬ (hexv s[k + 1] < (0 : Int) ∨ hexv s[k + 2] < (0 : Int) ∨ (16 : Int) * hexv s[k + 1] + hexv s[k + 2] = (0 : Int))) :
    nameS acc 0 (cutL s k to) = nameS (acc ++ [UInt8.ofNat ((16 : Int) * hexv s[k + 1] + hexv s[k + 2]).toNat]) 0 (cutL s (k + 3) to) := by
  rw [cutL_cons s k to (by omega) ht, hc, cutL_cons s (k + 1) to (by omega) ht, cutL_cons s (k + 2) to (by omega) ht]
  simp [nameS, h2]

set_option maxRecDepth 100000 in
set_option maxHeartbeats 1000000 in
theorem name_in (s : ByteArray) (a : Nat) (ha : a < s.size) (hs : s.size ≤ 140737488355327) (w : World) :
    Calls Tryz.prog 51 #[.agg #[.string s, .int .i64 a]] w fun e w' => e = .returned (tokR a (nameT (s.data.toList.drop (a + 1)))) ∧ Below w.heap.size w w' := by
  have hm : s.size ≤ maxLen := by unfold maxLen; omega
  obtain ⟨N, hN⟩ : ∃ N, regN (s.data.toList.drop (a + 1)) = N := ⟨_, rfl⟩
  have hNle : a + 1 + N ≤ s.size := by have := regN_le (s.data.toList.drop (a + 1)); rw [hN] at this; simp at this; omega
  have hT : nameT (s.data.toList.drop (a + 1)) = nameOf N (nameS [] 0 (cutL s (a + 1) (a + 1 + N))) := by
    unfold nameT cutL; rw [hN, show a + 1 + N - (a + 1) = N by omega]
  rw [hT]; clear hT
  obtain ⟨T, hT⟩ : ∃ T, nameS [] 0 (cutL s (a + 1) (a + 1 + N)) = T := ⟨_, rfl⟩
  rw [hT]
  have HT := Lib.hid hT; clear hT
  have hrun := run_in s a (a + 1) (by omega) hm
  rw [hN] at hrun
  have HR := Lib.hid hrun; clear hrun
  have HN := Lib.hid hN; clear hN
  go_enter Tryz.func51, Tryz.ntmps51
  go_wp2_with (go_at_call 80; refine (HR.out _).mono ?_; rintro e w1 ⟨rfl, hb⟩; obtain ⟨hc, hf⟩ := bcell hb; have hz := hb.size; simp at hz)
  have hB1 : w.heap.size + 2 ≤ w1.heap.size := by omega
  go_loopw [5, 6] (fun v i wr => ∃ (k : Nat) (acc : L), a + 1 ≤ k ∧ k ≤ a + 1 + N ∧ i = .int .i64 k ∧ ownB wr (w.heap.size + 2) v acc ∧ acc.length ≤ k ∧ Below (w.heap.size + 2) w1 wr ∧ Hid (nameS acc 0 (cutL s k (a + 1 + N)) = T)) (fun _ i _ => s.size - (intOf i).toNat)
  case atStart => exact ⟨a + 1, [], by omega, by omega, by go_num, ownB_nil _ _, by simp, Below.refl _ _, HT⟩
  case round =>
    obtain ⟨k, acc, hk1, hk2, rfl, hown, hacc, hbr, H⟩ := hrel
    have hBr : w.heap.size + 2 ≤ wr.heap.size := Nat.le_trans hB1 hbr.size
    obtain ⟨hcr, hfr⟩ := bcellB hbr
    clear HT
    by_cases hlt : k < a + 1 + N
    · by_cases h35 : s[k] = 35
      · have t35 : ((s[k].toNat : Int) == 35) = true := eq_yes (n := 35) (by decide) h35
        by_cases h2 : a + 1 + N ≤ k + 2
        · have HX := Lib.hid (H.out.symm.trans (nameS_short hlt (by omega) h35 h2))
          clear h35 H
          go_wp2_with (go_at_call 47; refine (refused_in _ _).mono ?_; rintro e w2 ⟨rfl, hb2⟩; replace hb2 := hbr.trans (hb2.mono hBr); obtain ⟨hc2, hf2⟩ := bcellB hb2)
          refine bodyPost_ret (v := .tuple #[.agg #[.int .i64 0, .int .i64 0, .int .i64 0, .int .i64 0, .string ⟨#[]⟩], .int .i64 3]) (by simp [results, Tryz.results51, go_sem, hc2, hf2, hc, hf]) rfl ⟨by rw [HX.out]; rfl, (by repeat' (first | (with_reducible exact Below.refl _ _) | (with_reducible refine Below.drew ?_) | (with_reducible refine belowDrewN ?_ _) | (with_reducible refine belowIter ?_ ?_ _ _) | (with_reducible refine Below.setCell ?_ ?_ _) | (with_reducible refine Below.alloc ?_ ?_ _) | (with_reducible refine Below.trans ?_ (Below.mono hb4 ?_)) | (with_reducible refine Below.trans ?_ (Below.mono hb3 ?_)) | (with_reducible refine Below.trans ?_ (Below.mono hb2 ?_)) | (with_reducible refine Below.trans ?_ (Below.mono hb1 ?_)) | (with_reducible refine Below.trans ?_ (Below.mono hbr ?_)) | (with_reducible refine Below.trans ?_ (Below.mono hb ?_)) | (simp; done) | (simp; omega) | omega))⟩
        · have h3 : k + 3 ≤ s.size := by omega
          by_cases hbad : hexv s[k + 1] < (0 : Int) ∨ hexv s[k + 2] < (0 : Int)
          · have HX := Lib.hid (H.out.symm.trans (nameS_bad (by omega) (by omega) h35 (by rcases hbad with h | h <;> simp [h])))
            have HB := Lib.hid hbad
            clear h35 H hbad
            go_wp2_with (first | (go_at_call 81; refine (hexAt_bad s k h3 HB.out _).mono ?_; rintro e w2 ⟨rfl, hb2⟩; replace hb2 := hbr.trans (hb2.mono hBr); have hB2 := Nat.le_trans hB1 hb2.size; obtain ⟨hc2, hf2⟩ := bcellB hb2) | (go_at_call 47; refine (refused_in _ _).mono ?_; rintro e w3 ⟨rfl, hb3⟩; replace hb3 := hb2.trans (hb3.mono hB2); obtain ⟨hc3, hf3⟩ := bcellB hb3))
            refine bodyPost_ret (v := .tuple #[.agg #[.int .i64 0, .int .i64 0, .int .i64 0, .int .i64 0, .string ⟨#[]⟩], .int .i64 3]) (by simp [results, Tryz.results51, go_sem, hc3, hf3, hc, hf]) rfl ⟨by rw [HX.out]; rfl, (by repeat' (first | (with_reducible exact Below.refl _ _) | (with_reducible refine Below.drew ?_) | (with_reducible refine belowDrewN ?_ _) | (with_reducible refine belowIter ?_ ?_ _ _) | (with_reducible refine Below.setCell ?_ ?_ _) | (with_reducible refine Below.alloc ?_ ?_ _) | (with_reducible refine Below.trans ?_ (Below.mono hb4 ?_)) | (with_reducible refine Below.trans ?_ (Below.mono hb3 ?_)) | (with_reducible refine Below.trans ?_ (Below.mono hb2 ?_)) | (with_reducible refine Below.trans ?_ (Below.mono hb1 ?_)) | (with_reducible refine Below.trans ?_ (Below.mono hbr ?_)) | (with_reducible refine Below.trans ?_ (Below.mono hb ?_)) | (simp; done) | (simp; omega) | omega))⟩
          · have hg1 : (0 : Int) ≤ hexv s[k + 1] := by omega
            have hg2 : (0 : Int) ≤ hexv s[k + 2] := by omega
            by_cases hzero : (16 : Int) * hexv s[k + 1] + hexv s[k + 2] = (0 : Int)
            · have HX := Lib.hid (H.out.symm.trans (nameS_bad (by omega) (by omega) h35 (.inr (.inr hzero))))
              have HB := Lib.hid (show UInt8.ofNat ((16 : Int) * hexv s[k + 1] + hexv s[k + 2]).toNat = 0 by rw [hzero]; rfl)
              have HG := Lib.hid (And.intro hg1 hg2)
              clear h35 H hbad hzero hg1 hg2
              go_wp2_with (first | (go_at_call 81; refine (hexAt_good s k 0 h3 HG.out.1 HG.out.2 HB.out _).mono ?_; rintro e w2 ⟨rfl, hb2⟩; replace hb2 := hbr.trans (hb2.mono hBr); have hB2 := Nat.le_trans hB1 hb2.size; obtain ⟨hc2, hf2⟩ := bcellB hb2) | (go_at_call 47; refine (refused_in _ _).mono ?_; rintro e w3 ⟨rfl, hb3⟩; replace hb3 := hb2.trans (hb3.mono hB2); obtain ⟨hc3, hf3⟩ := bcellB hb3))
              refine bodyPost_ret (v := .tuple #[.agg #[.int .i64 0, .int .i64 0, .int .i64 0, .int .i64 0, .string ⟨#[]⟩], .int .i64 3]) (by simp [results, Tryz.results51, go_sem, hc3, hf3, hc, hf]) rfl ⟨by rw [HX.out]; rfl, (by repeat' (first | (with_reducible exact Below.refl _ _) | (with_reducible refine Below.drew ?_) | (with_reducible refine belowDrewN ?_ _) | (with_reducible refine belowIter ?_ ?_ _ _) | (with_reducible refine Below.setCell ?_ ?_ _) | (with_reducible refine Below.alloc ?_ ?_ _) | (with_reducible refine Below.trans ?_ (Below.mono hb4 ?_)) | (with_reducible refine Below.trans ?_ (Below.mono hb3 ?_)) | (with_reducible refine Below.trans ?_ (Below.mono hb2 ?_)) | (with_reducible refine Below.trans ?_ (Below.mono hb1 ?_)) | (with_reducible refine Below.trans ?_ (Below.mono hbr ?_)) | (with_reducible refine Below.trans ?_ (Below.mono hb ?_)) | (simp; done) | (simp; omega) | omega))⟩
            · have hv0 := digit_lt s[k + 1].toNat
              have hv1 := digit_lt s[k + 2].toNat
              obtain ⟨c, hcc⟩ : ∃ c, UInt8.ofNat ((16 : Int) * hexv s[k + 1] + hexv s[k + 2]).toNat = c := ⟨_, rfl⟩
              have hcn : ¬ c = 0 := by
                intro h; rw [← hcc] at h
                have h2 := congrArg UInt8.toNat h
                unfold hexv at *
                simp at h2; omega
              have HX := Lib.hid (H.out.symm.trans ((nameS_hex (by omega) (by omega) h35 (by omega)).trans (by rw [hcc])))
              have HB := Lib.hid hcc
              have HG := Lib.hid (And.intro hg1 hg2)
              clear h35 H hbad hzero hg1 hg2 hv0 hv1 hcc
              have hcn2 : (c == 0) = false := by simpa using hcn
              clear hcn
              have hx0 : ∀ h, (ByteArray.mk #[c])[0]'h = c := fun _ => rfl
              go_wp2_with (first | (go_at_call 81; refine (hexAt_good s k c h3 HG.out.1 HG.out.2 HB.out _).mono ?_; rintro e w2 ⟨rfl, hb2⟩; have hown2 := ownB_below hown hb2; replace hb2 := hbr.trans (hb2.mono hBr); have hB2 := Nat.le_trans hB1 hb2.size; obtain ⟨hc2, hf2⟩ := bcellB hb2) | (at_builtin; go_must (refine append1 rfl _ _ rfl (w.heap.size + 2) _ acc _ hown2 rfl rfl (by omega) hB2 (by omega) (by have := UInt8.toNat_lt c; omega) ?_); intro v3 w3 hown3 hb3 hz3; replace hb3 := hb2.trans hb3))
              go_roundw
              case rel => exact ⟨k + 3, acc ++ [c], by omega, by omega, by go_num, by simpa using hown3, by simp; omega, hb3, HX.out.symm⟩
              case measure => simp [intOf]; omega
      · have t35 : ((s[k].toNat : Int) == 35) = false := eq_no (n := 35) (by decide) h35
        have HX := Lib.hid (H.out.symm.trans ((congrArg _ (cutL_cons s k _ hlt (by omega))).trans (nameS_plain h35)))
        clear h35 H
        go_wp2_with (at_builtin; go_must (refine append1 rfl _ _ rfl (w.heap.size + 2) _ acc _ hown rfl rfl (by omega) hBr (by omega) (by have := UInt8.toNat_lt s[k]; omega) ?_); intro v3 w3 hown3 hb3 hz3; replace hb3 := hbr.trans hb3)
        go_roundw
        case rel => exact ⟨k + 1, acc ++ [s[k]], by omega, by omega, by go_num, by simpa using hown3, by simp; omega, hb3, HX.out.symm⟩
        case measure => simp [intOf]; omega
    · have hk : k = a + 1 + N := by omega
      have hres : T = .good acc := by have := H.out; rw [hk, cutL_nil, nameS_end] at this; exact this.symm
      have HX := Lib.hid hres
      have hcv := convB hown
      clear H hk hres
      by_cases h127 : acc.length ≤ 127
      · go_wp2_with (go_at_call 78; refine (told_in s a 4 _ _ 127 (by unfold maxLen; simp [ByteArray.size]; omega) _ (by simpa [ByteArray.size] using h127)).mono ?_; rintro e w2 ⟨rfl, hb2⟩; replace hb2 := hbr.trans (hb2.mono hBr); obtain ⟨hc2, hf2⟩ := bcellB hb2)
        refine bodyPost_ret (v := .tuple #[.agg #[.int .i64 4, .int .i64 a, .int .i64 (a + 1 + N), .int .i64 0, .string ⟨acc.toArray⟩], .int .i64 0]) (by simp [results, Tryz.results51, go_sem, hc2, hf2, hc, hf]) rfl ⟨?_, (by repeat' (first | (with_reducible exact Below.refl _ _) | (with_reducible refine Below.drew ?_) | (with_reducible refine belowDrewN ?_ _) | (with_reducible refine belowIter ?_ ?_ _ _) | (with_reducible refine Below.setCell ?_ ?_ _) | (with_reducible refine Below.alloc ?_ ?_ _) | (with_reducible refine Below.trans ?_ (Below.mono hb4 ?_)) | (with_reducible refine Below.trans ?_ (Below.mono hb3 ?_)) | (with_reducible refine Below.trans ?_ (Below.mono hb2 ?_)) | (with_reducible refine Below.trans ?_ (Below.mono hb1 ?_)) | (with_reducible refine Below.trans ?_ (Below.mono hbr ?_)) | (with_reducible refine Below.trans ?_ (Below.mono hb ?_)) | (simp; done) | (simp; omega) | omega))⟩
        rw [HX.out]; simp only [nameOf, told, if_neg (show ¬ 127 < acc.length by omega), tokR]
        congr; omega
      · go_wp2_with (go_at_call 78; refine (told_long s a 4 _ _ 127 (by unfold maxLen; simp [ByteArray.size]; omega) _ (by simp [ByteArray.size]; omega)).mono ?_; rintro e w2 ⟨rfl, hb2⟩; replace hb2 := hbr.trans (hb2.mono hBr); obtain ⟨hc2, hf2⟩ := bcellB hb2)
        refine bodyPost_ret (v := .tuple #[.agg #[.int .i64 0, .int .i64 0, .int .i64 0, .int .i64 0, .string ⟨#[]⟩], .int .i64 5]) (by simp [results, Tryz.results51, go_sem, hc2, hf2, hc, hf]) rfl ⟨?_, (by repeat' (first | (with_reducible exact Below.refl _ _) | (with_reducible refine Below.drew ?_) | (with_reducible refine belowDrewN ?_ _) | (with_reducible refine belowIter ?_ ?_ _ _) | (with_reducible refine Below.setCell ?_ ?_ _) | (with_reducible refine Below.alloc ?_ ?_ _) | (with_reducible refine Below.trans ?_ (Below.mono hb4 ?_)) | (with_reducible refine Below.trans ?_ (Below.mono hb3 ?_)) | (with_reducible refine Below.trans ?_ (Below.mono hb2 ?_)) | (with_reducible refine Below.trans ?_ (Below.mono hb1 ?_)) | (with_reducible refine Below.trans ?_ (Below.mono hbr ?_)) | (with_reducible refine Below.trans ?_ (Below.mono hb ?_)) | (simp; done) | (simp; omega) | omega))⟩
        rw [HX.out]; simp only [nameOf, told, if_pos (show 127 < acc.length by omega), tokR]
end Go.Proofs.YtpadlepdgnlgnaaGreatDoor
