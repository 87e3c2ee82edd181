/- The walks of the document's answer, foliantref03, the second half. -/
import Derived.Test.YtibffdaljmmdoaaGreatDoorGRefA
import Derived.Test.YtibffdaljmmdoaaGreatDoorGLexA
import Derived.Lib.AppendStr
import Derived.Test.YtibffdaljmmdoaaGreatDoorGLexB
import Derived.Deep.RegionHeld3
import Derived.Deep.DeepCutAuto
set_option linter.all false
/- The walk of foliantref03.hex. -/
namespace Go.Proofs.YtibffdaljmmdoaaGreatDoor
open Go.RowKit Fo

def HexOut (a : Nat) : Res (L × Nat) → Value
  | .bad e => .tuple #[.string ⟨#[]⟩, .int .i64 0, .int .i64 e]
  | .good x => if 32767 < x.1.length then .tuple #[.string ⟨#[]⟩, .int .i64 0, .int .i64 5] else .tuple #[.string ⟨x.1.toArray⟩, .int .i64 (a + x.2 : Nat), .int .i64 0]
theorem runhexA (l : L) (r : ByteArray) (hr : (⟨(pairs l).toArray⟩ : ByteArray) = r) (hl : l.length ≤ 140737488355327) (he : l.length % 2 = 0) (hd : ∀ c ∈ l, 0 ≤ hexv c) (w : World) :
    Calls Tryz.prog 138 #[.string ⟨l.toArray⟩] w fun e w' => e = .returned (.tuple #[.string r, .int .i64 0]) ∧ Below w.heap.size w w' := by
  have h := runhex ⟨l.toArray⟩ (by simpa [ByteArray.size] using hl) (by simpa [ByteArray.size] using he) (by simpa using hd) w
  rw [show (⟨l.toArray⟩ : ByteArray).data.toList = l by simp, hr] at h
  exact h
set_option maxRecDepth 100000 in
set_option maxHeartbeats 1000000 in
theorem rhex (s : ByteArray) (a : Nat) (ha : a ≤ s.size) (hs : s.size ≤ 140737488355327) (w : World) :
    Calls Tryz.prog 111 #[.string s, .int .i64 a] w fun e w' => e = .returned (HexOut a (pairR (hexG [] 0 (s.data.toList.drop a)))) ∧ Below w.heap.size w w' := by
  obtain ⟨G, hG⟩ : ∃ G, hexG [] 0 (s.data.toList.drop a) = G := ⟨_, rfl⟩
  rw [hG]
  have HG := Lib.hid (show hexG [] (a - a) (s.data.toList.drop a) = G by rw [Nat.sub_self]; exact hG)
  clear hG
  go_enter Tryz.func111, Tryz.ntmps111
  go_wp2
  go_loopw [1, 7] (fun i v wr => ∃ (k : Nat) (acc : L), a ≤ k ∧ k ≤ s.size ∧ i = .int .i64 k ∧ ownB wr w.heap.size v acc ∧ acc.length ≤ k ∧ Below w.heap.size w wr ∧ Hid (∀ c ∈ acc, 0 ≤ hexv c) ∧ Hid (hexG acc (k - a) (s.data.toList.drop k) = G)) (fun i _ _ => s.size - (intOf i).toNat)
  case atStart => exact ⟨a, [], by omega, ha, rfl, ownB_nil _ _, by simp, Below.refl _ _, Lib.hid (by simp), HG⟩
  case round =>
    obtain ⟨k, acc, hka, hk2, rfl, hown, hacc, hbr, HA, H⟩ := hrel
    have hBr : w.heap.size ≤ wr.heap.size := hbr.size
    clear HG
    by_cases hlt : k < s.size
    · have H1 := H.out
      rw [drop_get s k hlt, hexG] at H1
      have hk1 : k - a + 1 = k + 1 - a := by omega
      rw [hk1] at H1
      clear hk1 H
      by_cases h62 : s[k] = 62
      · have t62 : ((s[k].toNat : Int) == 62) = true := eq_yes (n := 62) (by decide) h62
        have HG2 := Lib.hid (show G = .good (acc, k + 1 - a) by rw [← H1, h62]; rfl)
        obtain ⟨r, hr0⟩ : ∃ r : ByteArray, (⟨(pairs acc).toArray⟩ : ByteArray) = r := ⟨_, rfl⟩
        have hrl := Lib.hid (show r.size = (pairs acc).length by rw [← hr0]; simp [ByteArray.size])
        have hr := Lib.hid hr0
        clear H1 h62 hr0
        by_cases hev : acc.length % 2 = 0
        · have e1 : ((acc.length : Int) % 2 != 0) = false := by simp; omega
          have U := Lib.hid (fun W => runhexA acc r hr.out (by omega) hev HA.out W)
          obtain ⟨p, cv, rfl⟩ := ownB_slice hown
          have hcv := convB hown
          by_cases h32 : 32767 < r.size
          · go_wp2_with (go_at_call 138; refine (U.out _).mono ?_; rintro e w3 ⟨rfl, hb3⟩)
            refine bodyPost_ret (v := .tuple #[.string ⟨#[]⟩, .int .i64 0, .int .i64 5]) (by simp [results, Tryz.results111, go_sem]) rfl ⟨?_, (by repeat' (first | (with_reducible first | exact Below.refl _ _ | refine Below.drew ?_ | refine belowDrewN ?_ _ | refine belowIter ?_ ?_ _ _ | refine Below.setCell ?_ ?_ _ | refine Below.alloc ?_ ?_ _ | refine bT hb4 ?_ ?_ | refine bT hb3 ?_ ?_ | refine bT hb2 ?_ ?_ | refine bT hb1 ?_ ?_ | refine bT hbr ?_ ?_ | refine bT hb ?_ ?_) | (simp; done) | (simp; omega) | omega))⟩
            rw [HG2.out]; simp only [HexOut, pairR]; rw [if_pos (by rw [← hrl.out]; exact h32)]
          · go_wp2_with (go_at_call 138; refine (U.out _).mono ?_; rintro e w3 ⟨rfl, hb3⟩)
            refine bodyPost_ret (v := .tuple #[.string r, .int .i64 (k + 1), .int .i64 0]) (by simp [results, Tryz.results111, go_sem]) rfl ⟨?_, (by repeat' (first | (with_reducible first | exact Below.refl _ _ | refine Below.drew ?_ | refine belowDrewN ?_ _ | refine belowIter ?_ ?_ _ _ | refine Below.setCell ?_ ?_ _ | refine Below.alloc ?_ ?_ _ | refine bT hb4 ?_ ?_ | refine bT hb3 ?_ ?_ | refine bT hb2 ?_ ?_ | refine bT hb1 ?_ ?_ | refine bT hbr ?_ ?_ | refine bT hb ?_ ?_) | (simp; done) | (simp; omega) | omega))⟩
            rw [HG2.out]; simp only [HexOut, pairR]; rw [if_neg (by rw [← hrl.out]; exact h32), hr.out, show a + (k + 1 - a) = k + 1 by omega]; rfl
        · have e1 : ((acc.length : Int) % 2 != 0) = true := by simp; omega
          obtain ⟨bb, hbb⟩ : ∃ bb, acc ++ [48] = bb := ⟨_, rfl⟩
          have HBB := Lib.hid hbb
          have hu := fun W => runhexA (acc ++ [48]) r (by rw [pairs_odd acc (by omega)]; exact hr.out) (by simp; omega) (by simp; omega) (by intro c hc; rw [List.mem_append] at hc; rcases hc with h | h; exact HA.out c h; simp only [List.mem_singleton] at h; subst h; decide) W
          rw [hbb] at hu
          have U := Lib.hid hu
          clear hbb hu
          obtain ⟨p, cv, rfl⟩ := ownB_slice hown
          by_cases h32 : 32767 < r.size
          · go_wp2_with (first | (go_at_call 138; refine (U.out _).mono ?_; rintro e w4 ⟨rfl, hb4⟩) | (at_builtin; go_must (refine append1 rfl _ _ rfl w.heap.size _ acc _ hown rfl rfl (by omega) hBr (by omega) (by omega) ?_); intro v3 w3 hown3 hb3 hz3; replace hb3 := hbr.trans hb3; replace hown3 : ownB w3 w.heap.size v3 bb := HBB.out ▸ hown3; obtain ⟨p3, c3, rfl⟩ := ownB_slice hown3; have hcv := convB hown3))
            refine bodyPost_ret (v := .tuple #[.string ⟨#[]⟩, .int .i64 0, .int .i64 5]) (by simp [results, Tryz.results111, go_sem]) rfl ⟨?_, (by repeat' (first | (with_reducible first | exact Below.refl _ _ | refine Below.drew ?_ | refine belowDrewN ?_ _ | refine belowIter ?_ ?_ _ _ | refine Below.setCell ?_ ?_ _ | refine Below.alloc ?_ ?_ _ | refine bT hb4 ?_ ?_ | refine bT hb3 ?_ ?_ | refine bT hb2 ?_ ?_ | refine bT hb1 ?_ ?_ | refine bT hbr ?_ ?_ | refine bT hb ?_ ?_) | (simp; done) | (simp; omega) | omega))⟩
            rw [HG2.out]; simp only [HexOut, pairR]; rw [if_pos (by rw [← hrl.out]; exact h32)]
          · go_wp2_with (first | (go_at_call 138; refine (U.out _).mono ?_; rintro e w4 ⟨rfl, hb4⟩) | (at_builtin; go_must (refine append1 rfl _ _ rfl w.heap.size _ acc _ hown rfl rfl (by omega) hBr (by omega) (by omega) ?_); intro v3 w3 hown3 hb3 hz3; replace hb3 := hbr.trans hb3; replace hown3 : ownB w3 w.heap.size v3 bb := HBB.out ▸ hown3; obtain ⟨p3, c3, rfl⟩ := ownB_slice hown3; have hcv := convB hown3))
            refine bodyPost_ret (v := .tuple #[.string r, .int .i64 (k + 1), .int .i64 0]) (by simp [results, Tryz.results111, go_sem]) rfl ⟨?_, (by repeat' (first | (with_reducible first | exact Below.refl _ _ | refine Below.drew ?_ | refine belowDrewN ?_ _ | refine belowIter ?_ ?_ _ _ | refine Below.setCell ?_ ?_ _ | refine Below.alloc ?_ ?_ _ | refine bT hb4 ?_ ?_ | refine bT hb3 ?_ ?_ | refine bT hb2 ?_ ?_ | refine bT hb1 ?_ ?_ | refine bT hbr ?_ ?_ | refine bT hb ?_ ?_) | (simp; done) | (simp; omega) | omega))⟩
            rw [HG2.out]; simp only [HexOut, pairR]; rw [if_neg (by rw [← hrl.out]; exact h32), hr.out, show a + (k + 1 - a) = k + 1 by omega]; rfl
      · have t62 : ((s[k].toNat : Int) == 62) = false := eq_no (n := 62) (by decide) h62
        rw [if_neg (by simpa using h62)] at H1
        have D1 := Lib.hid (fun W => rdigit s[k] W)
        have W1 := Lib.hid (fun W => rwhite s[k] W)
        by_cases hc : 0 ≤ hexv s[k]
        · rw [if_pos hc] at H1
          have HX := Lib.hid H1
          have HC := Lib.hid (show ∀ c ∈ acc ++ [s[k]], 0 ≤ hexv c by
            intro c hcm
            rw [List.mem_append] at hcm
            rcases hcm with h | h
            · exact HA.out c h
            · simp only [List.mem_singleton] at h; subst h; exact hc)
          obtain ⟨u1, hu1⟩ : ∃ u, hexv s[k] = u := ⟨_, rfl⟩
          rw [hu1] at D1 hc
          clear H1 h62 hu1
          go_wp2_with (first | (go_at_call 136; refine (D1.out _).mono ?_; rintro e w2 ⟨rfl, rfl⟩) | (at_builtin; go_must (refine append1 rfl _ _ rfl w.heap.size _ acc _ hown rfl rfl (by omega) hBr (by omega) (by have := UInt8.toNat_lt s[k]; omega) ?_); intro v3 w3 hown3 hb3 hz3; replace hb3 := hbr.trans hb3))
          go_roundw
          case rel => exact ⟨k + 1, acc ++ [s[k]], by omega, by omega, by go_num, by simpa using hown3, by simp; omega, hb3, HC, HX⟩
          case measure => simp [intOf]; omega
        · have hn : ¬ 0 ≤ hexv s[k] := hc
          rw [if_neg hn] at H1
          obtain ⟨u1, hu1⟩ : ∃ u, hexv s[k] = u := ⟨_, rfl⟩
          rw [hu1] at D1 hn hc
          clear hu1
          cases hw : white s[k]
          · rw [hw] at W1 H1
            have HG2 := Lib.hid (show G = .bad 3 from H1.symm)
            clear H1 hw h62
            go_wp2_with (first | (go_at_call 136; refine (D1.out _).mono ?_; rintro e w2 ⟨rfl, rfl⟩) | (go_at_call 107; refine (W1.out _).mono ?_; rintro e w2 ⟨rfl, rfl⟩))
            refine bodyPost_ret (v := .tuple #[.string ⟨#[]⟩, .int .i64 0, .int .i64 3]) (by simp [results, Tryz.results111, go_sem]) rfl ⟨by rw [HG2.out]; rfl, (by repeat' (first | (with_reducible first | exact Below.refl _ _ | refine Below.drew ?_ | refine belowDrewN ?_ _ | refine belowIter ?_ ?_ _ _ | refine Below.setCell ?_ ?_ _ | refine Below.alloc ?_ ?_ _ | refine bT hb4 ?_ ?_ | refine bT hb3 ?_ ?_ | refine bT hb2 ?_ ?_ | refine bT hb1 ?_ ?_ | refine bT hbr ?_ ?_ | refine bT hb ?_ ?_) | (simp; done) | (simp; omega) | omega))⟩
          · rw [hw] at W1 H1
            have HX := Lib.hid H1
            clear H1 hw h62
            go_wp2_with (first | (go_at_call 136; refine (D1.out _).mono ?_; rintro e w2 ⟨rfl, rfl⟩) | (go_at_call 107; refine (W1.out _).mono ?_; rintro e w2 ⟨rfl, rfl⟩))
            go_roundw
            case rel => exact ⟨k + 1, acc, by omega, by omega, by go_num, hown, by omega, (by repeat' (first | (with_reducible first | exact Below.refl _ _ | refine Below.drew ?_ | refine belowDrewN ?_ _ | refine belowIter ?_ ?_ _ _ | refine Below.setCell ?_ ?_ _ | refine Below.alloc ?_ ?_ _ | refine bT hb4 ?_ ?_ | refine bT hb3 ?_ ?_ | refine bT hb2 ?_ ?_ | refine bT hb1 ?_ ?_ | refine bT hbr ?_ ?_ | refine bT hb ?_ ?_) | (simp; done) | (simp; omega) | omega)), HA, HX⟩
            case measure => simp [intOf]; omega
    · have HG2 := Lib.hid (show G = .bad 4 by have := H.out; rw [List.drop_eq_nil_of_le (by simp; omega)] at this; exact this.symm)
      clear H
      go_wp2
      refine bodyPost_ret (v := .tuple #[.string ⟨#[]⟩, .int .i64 0, .int .i64 4]) (by simp [results, Tryz.results111, go_sem]) rfl ⟨by rw [HG2.out]; rfl, (by repeat' (first | (with_reducible first | exact Below.refl _ _ | refine Below.drew ?_ | refine belowDrewN ?_ _ | refine belowIter ?_ ?_ _ _ | refine Below.setCell ?_ ?_ _ | refine Below.alloc ?_ ?_ _ | refine bT hb4 ?_ ?_ | refine bT hb3 ?_ ?_ | refine bT hb2 ?_ ?_ | refine bT hb1 ?_ ?_ | refine bT hbr ?_ ?_ | refine bT hb ?_ ?_) | (simp; done) | (simp; omega) | omega))⟩
end Go.Proofs.YtibffdaljmmdoaaGreatDoor
/- The walk of foliantref03.escape. -/
namespace Go.Proofs.YtibffdaljmmdoaaGreatDoor
open Go.RowKit Fo

set_option maxRecDepth 100000 in
set_option maxHeartbeats 2000000 in
theorem rescape (s : ByteArray) (a : Nat) (hp : a + 1 < s.size) (hs : s.size ≤ 140737488355327) (w : World) :
    Calls Tryz.prog 137 #[.string s, .int .i64 a] w fun e w' => e = .returned (.tuple #[.string ⟨(esc (s.data.toList.drop (a + 1))).1.toArray⟩, .int .i64 (a + 1 + (esc (s.data.toList.drop (a + 1))).2 : Nat)]) ∧ Below w.heap.size w w' := by
  obtain ⟨E, hE⟩ : ∃ E, esc (s.data.toList.drop (a + 1)) = E := ⟨_, rfl⟩
  rw [hE]
  have HE := Lib.hid hE
  clear hE
  go_enter Tryz.func137, Tryz.ntmps137
  go_wp2
  go_loop [9] (fun i => ∃ k : Nat, k ≤ 5 ∧ i = .int .i64 k ∧ Hid (∀ j, j < k → some s[a + 1] ≠ letters[j]?)) (fun i => 5 - (intOf i).toNat)
  case atStart => exact ⟨0, by omega, by simp, Lib.hid (by simp)⟩
  case round =>
    obtain ⟨k, hk, rfl, HN⟩ := hrel
    have hk6 : k = 0 ∨ k = 1 ∨ k = 2 ∨ k = 3 ∨ k = 4 ∨ k = 5 := by omega
    rcases hk6 with rfl | rfl | rfl | rfl | rfl | rfl
    · skip
      by_cases h : s[a + 1] = 110
      · have t : ((s[a + 1].toNat : Int) == (((⟨#[110, 114, 116, 98, 102]⟩ : ByteArray)[0]).toNat : Int)) = true := eq_yes (n := 110) (by decide) h
        have HX := Lib.hid (show E = ([10], 1) by rw [← HE.out, drop_get s (a + 1) hp, h]; rfl)
        clear h
        go_wp2
        go_ret2
        refine ⟨?_, (by repeat' (first | (with_reducible first | exact Below.refl _ _ | refine Below.drew ?_ | refine belowDrewN ?_ _ | refine belowIter ?_ ?_ _ _ | refine Below.setCell ?_ ?_ _ | refine Below.alloc ?_ ?_ _ | refine bT hb4 ?_ ?_ | refine bT hb3 ?_ ?_ | refine bT hb2 ?_ ?_ | refine bT hb1 ?_ ?_ | refine bT hbr ?_ ?_ | refine bT hb ?_ ?_) | (simp; done) | (simp; omega) | omega))⟩
        rw [HX.out]; simp; exact ⟨rfl, by omega⟩
      · have t : ((s[a + 1].toNat : Int) == (((⟨#[110, 114, 116, 98, 102]⟩ : ByteArray)[0]).toNat : Int)) = false := eq_no (n := 110) (by decide) h
        have HM := Lib.hid (show ∀ j, j < 0 + 1 → some s[a + 1] ≠ letters[j]? by
          intro j hj
          by_cases hjk : j = 0
          · subst hjk; simpa using h
          · exact HN.out j (by omega))
        clear h
        go_wp2
        go_round
        case rel => exact ⟨0 + 1, by omega, by simp, HM⟩
        case measure => simp [intOf]
    · skip
      by_cases h : s[a + 1] = 114
      · have t : ((s[a + 1].toNat : Int) == (((⟨#[110, 114, 116, 98, 102]⟩ : ByteArray)[1]).toNat : Int)) = true := eq_yes (n := 114) (by decide) h
        have HX := Lib.hid (show E = ([13], 1) by rw [← HE.out, drop_get s (a + 1) hp, h]; rfl)
        clear h
        go_wp2
        go_ret2
        refine ⟨?_, (by repeat' (first | (with_reducible first | exact Below.refl _ _ | refine Below.drew ?_ | refine belowDrewN ?_ _ | refine belowIter ?_ ?_ _ _ | refine Below.setCell ?_ ?_ _ | refine Below.alloc ?_ ?_ _ | refine bT hb4 ?_ ?_ | refine bT hb3 ?_ ?_ | refine bT hb2 ?_ ?_ | refine bT hb1 ?_ ?_ | refine bT hbr ?_ ?_ | refine bT hb ?_ ?_) | (simp; done) | (simp; omega) | omega))⟩
        rw [HX.out]; simp; exact ⟨rfl, by omega⟩
      · have t : ((s[a + 1].toNat : Int) == (((⟨#[110, 114, 116, 98, 102]⟩ : ByteArray)[1]).toNat : Int)) = false := eq_no (n := 114) (by decide) h
        have HM := Lib.hid (show ∀ j, j < 1 + 1 → some s[a + 1] ≠ letters[j]? by
          intro j hj
          by_cases hjk : j = 1
          · subst hjk; simpa using h
          · exact HN.out j (by omega))
        clear h
        go_wp2
        go_round
        case rel => exact ⟨1 + 1, by omega, by simp, HM⟩
        case measure => simp [intOf]
    · skip
      by_cases h : s[a + 1] = 116
      · have t : ((s[a + 1].toNat : Int) == (((⟨#[110, 114, 116, 98, 102]⟩ : ByteArray)[2]).toNat : Int)) = true := eq_yes (n := 116) (by decide) h
        have HX := Lib.hid (show E = ([9], 1) by rw [← HE.out, drop_get s (a + 1) hp, h]; rfl)
        clear h
        go_wp2
        go_ret2
        refine ⟨?_, (by repeat' (first | (with_reducible first | exact Below.refl _ _ | refine Below.drew ?_ | refine belowDrewN ?_ _ | refine belowIter ?_ ?_ _ _ | refine Below.setCell ?_ ?_ _ | refine Below.alloc ?_ ?_ _ | refine bT hb4 ?_ ?_ | refine bT hb3 ?_ ?_ | refine bT hb2 ?_ ?_ | refine bT hb1 ?_ ?_ | refine bT hbr ?_ ?_ | refine bT hb ?_ ?_) | (simp; done) | (simp; omega) | omega))⟩
        rw [HX.out]; simp; exact ⟨rfl, by omega⟩
      · have t : ((s[a + 1].toNat : Int) == (((⟨#[110, 114, 116, 98, 102]⟩ : ByteArray)[2]).toNat : Int)) = false := eq_no (n := 116) (by decide) h
        have HM := Lib.hid (show ∀ j, j < 2 + 1 → some s[a + 1] ≠ letters[j]? by
          intro j hj
          by_cases hjk : j = 2
          · subst hjk; simpa using h
          · exact HN.out j (by omega))
        clear h
        go_wp2
        go_round
        case rel => exact ⟨2 + 1, by omega, by simp, HM⟩
        case measure => simp [intOf]
    · skip
      by_cases h : s[a + 1] = 98
      · have t : ((s[a + 1].toNat : Int) == (((⟨#[110, 114, 116, 98, 102]⟩ : ByteArray)[3]).toNat : Int)) = true := eq_yes (n := 98) (by decide) h
        have HX := Lib.hid (show E = ([8], 1) by rw [← HE.out, drop_get s (a + 1) hp, h]; rfl)
        clear h
        go_wp2
        go_ret2
        refine ⟨?_, (by repeat' (first | (with_reducible first | exact Below.refl _ _ | refine Below.drew ?_ | refine belowDrewN ?_ _ | refine belowIter ?_ ?_ _ _ | refine Below.setCell ?_ ?_ _ | refine Below.alloc ?_ ?_ _ | refine bT hb4 ?_ ?_ | refine bT hb3 ?_ ?_ | refine bT hb2 ?_ ?_ | refine bT hb1 ?_ ?_ | refine bT hbr ?_ ?_ | refine bT hb ?_ ?_) | (simp; done) | (simp; omega) | omega))⟩
        rw [HX.out]; simp; exact ⟨rfl, by omega⟩
      · have t : ((s[a + 1].toNat : Int) == (((⟨#[110, 114, 116, 98, 102]⟩ : ByteArray)[3]).toNat : Int)) = false := eq_no (n := 98) (by decide) h
        have HM := Lib.hid (show ∀ j, j < 3 + 1 → some s[a + 1] ≠ letters[j]? by
          intro j hj
          by_cases hjk : j = 3
          · subst hjk; simpa using h
          · exact HN.out j (by omega))
        clear h
        go_wp2
        go_round
        case rel => exact ⟨3 + 1, by omega, by simp, HM⟩
        case measure => simp [intOf]
    · skip
      by_cases h : s[a + 1] = 102
      · have t : ((s[a + 1].toNat : Int) == (((⟨#[110, 114, 116, 98, 102]⟩ : ByteArray)[4]).toNat : Int)) = true := eq_yes (n := 102) (by decide) h
        have HX := Lib.hid (show E = ([12], 1) by rw [← HE.out, drop_get s (a + 1) hp, h]; rfl)
        clear h
        go_wp2
        go_ret2
        refine ⟨?_, (by repeat' (first | (with_reducible first | exact Below.refl _ _ | refine Below.drew ?_ | refine belowDrewN ?_ _ | refine belowIter ?_ ?_ _ _ | refine Below.setCell ?_ ?_ _ | refine Below.alloc ?_ ?_ _ | refine bT hb4 ?_ ?_ | refine bT hb3 ?_ ?_ | refine bT hb2 ?_ ?_ | refine bT hb1 ?_ ?_ | refine bT hbr ?_ ?_ | refine bT hb ?_ ?_) | (simp; done) | (simp; omega) | omega))⟩
        rw [HX.out]; simp; exact ⟨rfl, by omega⟩
      · have t : ((s[a + 1].toNat : Int) == (((⟨#[110, 114, 116, 98, 102]⟩ : ByteArray)[4]).toNat : Int)) = false := eq_no (n := 102) (by decide) h
        have HM := Lib.hid (show ∀ j, j < 4 + 1 → some s[a + 1] ≠ letters[j]? by
          intro j hj
          by_cases hjk : j = 4
          · subst hjk; simpa using h
          · exact HN.out j (by omega))
        clear h
        go_wp2
        go_round
        case rel => exact ⟨4 + 1, by omega, by simp, HM⟩
        case measure => simp [intOf]
    · have hN := HN.out
      have n0 : ¬ s[a + 1] = 110 := fun h => hN 0 (by omega) (by rw [h]; rfl)
      have n1 : ¬ s[a + 1] = 114 := fun h => hN 1 (by omega) (by rw [h]; rfl)
      have n2 : ¬ s[a + 1] = 116 := fun h => hN 2 (by omega) (by rw [h]; rfl)
      have n3 : ¬ s[a + 1] = 98 := fun h => hN 3 (by omega) (by rw [h]; rfl)
      have n4 : ¬ s[a + 1] = 102 := fun h => hN 4 (by omega) (by rw [h]; rfl)
      have hc := esc_cases s[a + 1] (s.data.toList.drop (a + 1 + 1))
      rw [← drop_get s (a + 1) hp, HE.out] at hc
      have hc2 : (eol s[a + 1] = true ∧ E = ([], lineN (s.data.toList.drop (a + 1)))) ∨ (eol s[a + 1] = false ∧ E = escO s[a + 1] (octN 3 0 0 (s.data.toList.drop (a + 1)))) := by
        rcases hc with ⟨h, _⟩ | ⟨h, _⟩ | ⟨h, _⟩ | ⟨h, _⟩ | ⟨h, _⟩ | ⟨_, h⟩ | ⟨_, h⟩
        · exact absurd h n0
        · exact absurd h n1
        · exact absurd h n2
        · exact absurd h n3
        · exact absurd h n4
        · exact .inl h
        · exact .inr h
      clear hc hN n0 n1 n2 n3 n4 HN HE
      by_cases h13 : s[a + 1] = 13
      · have t13 : ((s[a + 1].toNat : Int) == 13) = true := eq_yes (n := 13) (by decide) h13
        have hE := (hc2.resolve_right (fun h => by rw [h13] at h; exact absurd h.1 (by decide))).2
        rw [drop_get s (a + 1) hp, lineN_cons, h13, if_neg (by decide), if_pos rfl] at hE
        clear hc2 h13
        by_cases h2 : a + 2 < s.size
        · have q2 : (a : Int) + 2 < s.size := by omega
          rw [show a + 1 + 1 = a + 2 by omega, drop_get s (a + 2) h2] at hE
          by_cases h10 : s[a + 2] = 10
          · have t10 : ((s[a + 2].toNat : Int) == 10) = true := eq_yes (n := 10) (by decide) h10
            have hX : E = ([], 2) := by rw [hE, h10]; rfl
            clear h10 hE
            have HX := Lib.hid hX
            clear hX
            go_wp2
            go_ret2
            refine ⟨?_, (by repeat' (first | (with_reducible first | exact Below.refl _ _ | refine Below.drew ?_ | refine belowDrewN ?_ _ | refine belowIter ?_ ?_ _ _ | refine Below.setCell ?_ ?_ _ | refine Below.alloc ?_ ?_ _ | refine bT hb4 ?_ ?_ | refine bT hb3 ?_ ?_ | refine bT hb2 ?_ ?_ | refine bT hb1 ?_ ?_ | refine bT hbr ?_ ?_ | refine bT hb ?_ ?_) | (simp; done) | (simp; omega) | omega))⟩
            rw [HX.out]
            simp; omega
          · have t10 : ((s[a + 2].toNat : Int) == 10) = false := eq_no (n := 10) (by decide) h10
            have hX : E = ([], 1) := by rw [hE]; simp [h10]
            clear h10 hE
            have HX := Lib.hid hX
            clear hX
            go_wp2
            go_ret2
            refine ⟨?_, (by repeat' (first | (with_reducible first | exact Below.refl _ _ | refine Below.drew ?_ | refine belowDrewN ?_ _ | refine belowIter ?_ ?_ _ _ | refine Below.setCell ?_ ?_ _ | refine Below.alloc ?_ ?_ _ | refine bT hb4 ?_ ?_ | refine bT hb3 ?_ ?_ | refine bT hb2 ?_ ?_ | refine bT hb1 ?_ ?_ | refine bT hbr ?_ ?_ | refine bT hb ?_ ?_) | (simp; done) | (simp; omega) | omega))⟩
            rw [HX.out]
            simp; omega
        · have q2 : ¬ (a : Int) + 2 < s.size := by omega
          have hX : E = ([], 1) := by rw [hE, List.drop_eq_nil_of_le (by simp; omega)]; rfl
          clear hE
          have HX := Lib.hid hX
          clear hX
          go_wp2
          go_ret2
          refine ⟨?_, (by repeat' (first | (with_reducible first | exact Below.refl _ _ | refine Below.drew ?_ | refine belowDrewN ?_ _ | refine belowIter ?_ ?_ _ _ | refine Below.setCell ?_ ?_ _ | refine Below.alloc ?_ ?_ _ | refine bT hb4 ?_ ?_ | refine bT hb3 ?_ ?_ | refine bT hb2 ?_ ?_ | refine bT hb1 ?_ ?_ | refine bT hbr ?_ ?_ | refine bT hb ?_ ?_) | (simp; done) | (simp; omega) | omega))⟩
          rw [HX.out]
          simp; omega
      · have t13 : ((s[a + 1].toNat : Int) == 13) = false := eq_no (n := 13) (by decide) h13
        by_cases h10 : s[a + 1] = 10
        · have t10 : ((s[a + 1].toNat : Int) == 10) = true := eq_yes (n := 10) (by decide) h10
          have hE := (hc2.resolve_right (fun h => by rw [h10] at h; exact absurd h.1 (by decide))).2
          rw [drop_get s (a + 1) hp, lineN_cons, h10, if_pos rfl] at hE
          have hX := hE
          clear hc2 h13 h10 hE
          have HX := Lib.hid hX
          clear hX
          go_wp2
          go_ret2
          refine ⟨?_, (by repeat' (first | (with_reducible first | exact Below.refl _ _ | refine Below.drew ?_ | refine belowDrewN ?_ _ | refine belowIter ?_ ?_ _ _ | refine Below.setCell ?_ ?_ _ | refine Below.alloc ?_ ?_ _ | refine bT hb4 ?_ ?_ | refine bT hb3 ?_ ?_ | refine bT hb2 ?_ ?_ | refine bT hb1 ?_ ?_ | refine bT hbr ?_ ?_ | refine bT hb ?_ ?_) | (simp; done) | (simp; omega) | omega))⟩
          rw [HX.out]
          simp; omega
        · have t10 : ((s[a + 1].toNat : Int) == 10) = false := eq_no (n := 10) (by decide) h10
          have hE := (hc2.resolve_left (fun h => by have := h.1; simp [eol, h13, h10] at this)).2
          clear hc2 h13 h10
          obtain ⟨X, hX⟩ : ∃ X, octN 3 0 0 (s.data.toList.drop (a + 1)) = X := ⟨_, rfl⟩
          rw [hX] at hE
          subst hE
          have HX0 := Lib.hid hX; clear hX
          go_wp2
          go_loop [10, 11] (fun n t => ∃ (v j : Nat), j ≤ 3 ∧ a + 1 + j ≤ s.size ∧ v < 8 ^ j ∧ n = .int .i64 v ∧ t = .int .i64 (a + 1 + j) ∧ Hid (octN (3 - j) v j (s.data.toList.drop (a + 1 + j)) = X)) (fun _ t => s.size - (intOf t).toNat)
          case atStart => exact ⟨0, 0, by omega, by omega, by decide, rfl, by go_num, HX0⟩
          case round =>
            obtain ⟨v, j, hj, hpj, hv, rfl, rfl, H⟩ := hrel
            have hv2 : v < 512 := Nat.lt_of_lt_of_le hv (Nat.le_trans (Nat.pow_le_pow_right (by decide) hj) (by decide))
            have HV := Lib.hid hv
            clear HX0 hv
            by_cases h1 : a + 1 + j < s.size
            · by_cases h2 : j < 3
              · by_cases h3 : 48 ≤ (s[a + 1 + j].toNat : Int)
                · by_cases h4 : (s[a + 1 + j].toNat : Int) ≤ 55
                  · have HX := Lib.hid (show octN (3 - (j + 1)) (8 * v + (s[a + 1 + j].toNat - 48)) (j + 1) (s.data.toList.drop (a + 1 + j + 1)) = X by
                      have := H.out
                      rw [drop_get s _ h1, show 3 - j = (3 - (j + 1)) + 1 by omega, octN_go ((oct_iff _).2 ⟨h3, h4⟩)] at this; exact this)
                    clear H
                    go_wp2
                    go_round
                    case rel => exact ⟨8 * v + (s[a + 1 + j].toNat - 48), j + 1, by omega, by omega, by have := HV.out; rw [Nat.pow_succ]; omega, by congr 1; omega, by go_num, HX⟩
                    case measure => simp [intOf]; omega
                  · have hX : X = (v, j) := H.out.symm.trans (octN_stop (.inr (.inr ⟨_, _, drop_get s _ h1, by rw [Bool.eq_false_iff]; intro h; exact h4 ((oct_iff _).1 h).2⟩)))
                    clear H HV
                    by_cases hj0 : j = 0
                    · subst hj0
                      have HX := Lib.hid hX
                      clear hX
                      go_wp2
                      go_ret2
                      refine ⟨?_, (by repeat' (first | (with_reducible first | exact Below.refl _ _ | refine Below.drew ?_ | refine belowDrewN ?_ _ | refine belowIter ?_ ?_ _ _ | refine Below.setCell ?_ ?_ _ | refine Below.alloc ?_ ?_ _ | refine bT hb4 ?_ ?_ | refine bT hb3 ?_ ?_ | refine bT hb2 ?_ ?_ | refine bT hb1 ?_ ?_ | refine bT hbr ?_ ?_ | refine bT hb ?_ ?_) | (simp; done) | (simp; omega) | omega))⟩
                      rw [HX.out]; simp [escO]; exact ⟨ext1 s (a + 1) hp, by omega⟩
                    · skip
                      have hgt : (a : Int) + 1 < a + 1 + j := by omega
                      have HX := Lib.hid hX
                      clear hX
                      go_wp2_with fail
                      rw [conv_one _ _ (by simp [isByte, go_sem])]
                      go_wp2
                      go_ret2
                      refine ⟨?_, (by repeat' (first | (with_reducible first | exact Below.refl _ _ | refine Below.drew ?_ | refine belowDrewN ?_ _ | refine belowIter ?_ ?_ _ _ | refine Below.setCell ?_ ?_ _ | refine Below.alloc ?_ ?_ _ | refine bT hb4 ?_ ?_ | refine bT hb3 ?_ ?_ | refine bT hb2 ?_ ?_ | refine bT hb1 ?_ ?_ | refine bT hbr ?_ ?_ | refine bT hb ?_ ?_) | (simp; done) | (simp; omega) | omega))⟩
                      rw [HX.out]; simp [escO, hj0, cellByte, go_sem]; exact u8_mod v
                · have hX : X = (v, j) := H.out.symm.trans (octN_stop (.inr (.inr ⟨_, _, drop_get s _ h1, by rw [Bool.eq_false_iff]; intro h; exact h3 ((oct_iff _).1 h).1⟩)))
                  clear H HV
                  by_cases hj0 : j = 0
                  · subst hj0
                    have HX := Lib.hid hX
                    clear hX
                    go_wp2
                    go_ret2
                    refine ⟨?_, (by repeat' (first | (with_reducible first | exact Below.refl _ _ | refine Below.drew ?_ | refine belowDrewN ?_ _ | refine belowIter ?_ ?_ _ _ | refine Below.setCell ?_ ?_ _ | refine Below.alloc ?_ ?_ _ | refine bT hb4 ?_ ?_ | refine bT hb3 ?_ ?_ | refine bT hb2 ?_ ?_ | refine bT hb1 ?_ ?_ | refine bT hbr ?_ ?_ | refine bT hb ?_ ?_) | (simp; done) | (simp; omega) | omega))⟩
                    rw [HX.out]; simp [escO]; exact ⟨ext1 s (a + 1) hp, by omega⟩
                  · skip
                    have hgt : (a : Int) + 1 < a + 1 + j := by omega
                    have HX := Lib.hid hX
                    clear hX
                    go_wp2_with fail
                    rw [conv_one _ _ (by simp [isByte, go_sem])]
                    go_wp2
                    go_ret2
                    refine ⟨?_, (by repeat' (first | (with_reducible first | exact Below.refl _ _ | refine Below.drew ?_ | refine belowDrewN ?_ _ | refine belowIter ?_ ?_ _ _ | refine Below.setCell ?_ ?_ _ | refine Below.alloc ?_ ?_ _ | refine bT hb4 ?_ ?_ | refine bT hb3 ?_ ?_ | refine bT hb2 ?_ ?_ | refine bT hb1 ?_ ?_ | refine bT hbr ?_ ?_ | refine bT hb ?_ ?_) | (simp; done) | (simp; omega) | omega))⟩
                    rw [HX.out]; simp [escO, hj0, cellByte, go_sem]; exact u8_mod v
              · have hX : X = (v, j) := H.out.symm.trans (octN_stop (.inl (by omega)))
                clear H HV
                have hj0 : ¬ j = 0 := by omega
                have hgt : (a : Int) + 1 < a + 1 + j := by omega
                have HX := Lib.hid hX
                clear hX
                go_wp2_with fail
                rw [conv_one _ _ (by simp [isByte, go_sem])]
                go_wp2
                go_ret2
                refine ⟨?_, (by repeat' (first | (with_reducible first | exact Below.refl _ _ | refine Below.drew ?_ | refine belowDrewN ?_ _ | refine belowIter ?_ ?_ _ _ | refine Below.setCell ?_ ?_ _ | refine Below.alloc ?_ ?_ _ | refine bT hb4 ?_ ?_ | refine bT hb3 ?_ ?_ | refine bT hb2 ?_ ?_ | refine bT hb1 ?_ ?_ | refine bT hbr ?_ ?_ | refine bT hb ?_ ?_) | (simp; done) | (simp; omega) | omega))⟩
                rw [HX.out]; simp [escO, hj0, cellByte, go_sem]; exact u8_mod v
            · have hX : X = (v, j) := H.out.symm.trans (octN_stop (.inr (.inl (by rw [List.drop_eq_nil_of_le (by simp; omega)]))))
              clear H HV
              have hj0 : ¬ j = 0 := by omega
              have hgt : (a : Int) + 1 < a + 1 + j := by omega
              have HX := Lib.hid hX
              clear hX
              go_wp2_with fail
              rw [conv_one _ _ (by simp [isByte, go_sem])]
              go_wp2
              go_ret2
              refine ⟨?_, (by repeat' (first | (with_reducible first | exact Below.refl _ _ | refine Below.drew ?_ | refine belowDrewN ?_ _ | refine belowIter ?_ ?_ _ _ | refine Below.setCell ?_ ?_ _ | refine Below.alloc ?_ ?_ _ | refine bT hb4 ?_ ?_ | refine bT hb3 ?_ ?_ | refine bT hb2 ?_ ?_ | refine bT hb1 ?_ ?_ | refine bT hbr ?_ ?_ | refine bT hb ?_ ?_) | (simp; done) | (simp; omega) | omega))⟩
              rw [HX.out]; simp [escO, hj0, cellByte, go_sem]; exact u8_mod v
end Go.Proofs.YtibffdaljmmdoaaGreatDoor
/- The walk of foliantref03.text. -/
namespace Go.Proofs.YtibffdaljmmdoaaGreatDoor
open Go.RowKit Fo

/-- The bytes of a string are appended to bytes of the call's own. -/
theorem rappendS {ops : Array Oper} {rest : List Oper} {o : Oper} {a : Act} {Q : Exit → Act → World → Prop} {w : World} (hgd : o.guard = none) (s x : Operand)
    (ho : o.op = .call { callee := .builtin .append, args := #[s, x], argTypes := #[41, 9] })
    (B : Nat) (v : Value) (l : L) (r : ByteArray) (hown : ownB w B v l) (hs : a.eval s = v)
    (hx : a.eval x = .string r) (hlen : l.length + r.size ≤ 140737488355327) (hB : B ≤ w.heap.size)
    (h : ∀ v' w', ownB w' B v' (l ++ r.data.toList) → Below B w w' → wpList Tryz.prog ops Q rest (a.put o.dst v') w') :
    wpList Tryz.prog ops Q (o :: rest) a w := by
  obtain ⟨i0, hi, hz0, hz1, hz2⟩ := info_parts Tryz.infoU8
  refine Go.Lib.wpList_append_own_string w hgd s x 41 9 ho B 5 i0 Tryz.underlying41 Tryz.underlying9 hi hz0 hz1 hz2 v l.length _ hs hown r hx (by unfold maxLen; omega) (by omega) hB ?_
  intro v' w' hown' hg _
  refine h v' w' ?_ ((Below.refl B _).grown hg hB (own_base hown))
  unfold ownB
  have e1 : (l ++ r.data.toList).length = l.length + r.size := by rw [List.length_append]; rfl
  rw [e1, List.map_append]
  exact hown'
set_option maxRecDepth 100000 in
set_option maxHeartbeats 2000000 in
theorem rtext (s : ByteArray) (a : Nat) (ha : a ≤ s.size) (hs : s.size ≤ 140737488355327) (w : World) :
    Calls Tryz.prog 110 #[.string s, .int .i64 a] w fun e w' => e = .returned (HexOut a (textS [] 0 1 0 (s.data.toList.drop a))) ∧ Below w.heap.size w w' := by
  obtain ⟨T, hT⟩ : ∃ T, textS [] 0 1 0 (s.data.toList.drop a) = T := ⟨_, rfl⟩
  rw [hT]
  have HT := Lib.hid (show textS [] (a - a) 1 0 (s.data.toList.drop a) = T by rw [Nat.sub_self]; exact hT)
  clear hT
  go_enter Tryz.func110, Tryz.ntmps110
  go_wp2
  go_loopw [1, 7, 8] (fun i v op wr => ∃ (k : Nat) (acc : L) (o : Nat), a ≤ k ∧ k ≤ s.size ∧ 1 ≤ o ∧ o ≤ k + 1 ∧ i = .int .i64 k ∧ op = .int .i64 o ∧ ownB wr w.heap.size v acc ∧ acc.length ≤ k ∧ Below w.heap.size w wr ∧ Hid (textS acc (k - a) o 0 (s.data.toList.drop k) = T)) (fun i _ _ _ => s.size - (intOf i).toNat)
  case atStart => exact ⟨a, [], 1, by omega, ha, by omega, by omega, rfl, by go_num, ownB_nil _ _, by simp, Below.refl _ _, HT⟩
  case round =>
    obtain ⟨k, acc, o, hk1, hk2, ho1, ho2, rfl, rfl, hown, hacc, hbr, H⟩ := hrel
    have hBr : w.heap.size ≤ wr.heap.size := hbr.size
    clear HT
    by_cases hlt : k < s.size
    · have hn1 : k - a + 1 = k + 1 - a := by omega
      have hu := UInt8.toNat_lt s[k]
      by_cases h92 : s[k] = 92
      · have t1 : ((s[k].toNat : Int) == 92) = true := eq_yes (n := 92) (by decide) h92
        by_cases hend : k + 1 = s.size
        · have HX := Lib.hid (H.out.symm.trans (textS_esc0 hend h92))
          have t2 : (s.size : Int) ≤ (k : Int) + 1 := by omega
          clear H h92 hend hn1
          go_wp2
          refine bodyPost_ret (v := .tuple #[.string ⟨#[]⟩, .int .i64 0, .int .i64 4]) (by simp [results, Tryz.results110, go_sem]) rfl ⟨by rw [HX.out]; rfl, (by repeat' (first | (with_reducible first | exact Below.refl _ _ | refine Below.drew ?_ | refine belowDrewN ?_ _ | refine belowIter ?_ ?_ _ _ | refine Below.setCell ?_ ?_ _ | refine Below.alloc ?_ ?_ _ | refine bT hb4 ?_ ?_ | refine bT hb3 ?_ ?_ | refine bT hb2 ?_ ?_ | refine bT hb1 ?_ ?_ | refine bT hbr ?_ ?_ | refine bT hb ?_ ?_) | (simp; done) | (simp; omega) | omega))⟩
        · have hlt1 : k + 1 < s.size := by omega
          have t2 : ¬ (s.size : Int) ≤ (k : Int) + 1 := by omega
          have hX := H.out.symm.trans (textS_esc hlt1 h92)
          have hel := esc_le (s.data.toList.drop (k + 1)) (by rw [drop_get s _ hlt1]; simp)
          obtain ⟨⟨x, m⟩, hxm⟩ : ∃ x, esc (s.data.toList.drop (k + 1)) = x := ⟨_, rfl⟩
          have hesc := fun w => rescape s k hlt1 hs w
          rw [hxm] at hX hel hesc
          simp only [List.length_drop, Array.length_toList] at hX hel hesc
          have hel2 : m ≤ s.size - (k + 1) := hel.2.1
          have hel1 := hel.1
          have hel3 := hel.2.2
          rw [show k - a + 1 + m = k + 1 + m - a by omega] at hX
          have HX := Lib.hid hX
          have HS := Lib.hid hesc
          clear H h92 hend hX hxm hesc hel
          go_wp2_with (first | (go_at_call 137; refine (HS.out _).mono ?_; rintro e w2 ⟨rfl, hb2⟩; have hown2 := ownB_below hown hb2; replace hb2 := hbr.trans (hb2.mono hBr)) | (at_builtin; go_must (refine rappendS rfl _ _ rfl w.heap.size _ acc _ hown2 rfl rfl (by simp [ByteArray.size]; omega) hb2.size ?_); intro v3 w3 hown3 hb3; replace hb3 := hb2.trans hb3))
          go_roundw
          case rel => exact ⟨k + 1 + m, acc ++ x, o, by omega, by omega, by omega, by omega, by go_num, rfl, by simpa using hown3, by simp; omega, hb3, HX.out.symm⟩
          case measure => simp [intOf]; omega
      · have t1 : ((s[k].toNat : Int) == 92) = false := eq_no (n := 92) (by decide) h92
        by_cases h40 : s[k] = 40
        · have t2 : ((s[k].toNat : Int) == 40) = true := eq_yes (n := 40) (by decide) h40
          have t3 : ((s[k].toNat : Int) == 41) = false := eq_no (n := 41) (by decide) (by rw [h40]; decide)
          have t5 : ((s[k].toNat : Int) == 13) = false := eq_no (n := 13) (by decide) (by rw [h40]; decide)
          have HX := Lib.hid (H.out.symm.trans ((textS_open hlt h40).trans (by rw [hn1])))
          clear H h92 h40 hn1
          go_wp2_with (at_builtin; go_must (refine append1 rfl _ _ rfl w.heap.size _ acc _ hown rfl rfl (by omega) hBr (by omega) (by omega) ?_); intro v3 w3 hown3 hb3 hz3; replace hb3 := hbr.trans hb3)
          go_roundw
          case rel => exact ⟨k + 1, acc ++ [s[k]], o + 1, by omega, by omega, by omega, by omega, by go_num, by go_num, by simpa using hown3, by simp; omega, hb3, HX.out.symm⟩
          case measure => simp [intOf]; omega
        · have t2 : ((s[k].toNat : Int) == 40) = false := eq_no (n := 40) (by decide) h40
          by_cases h41 : s[k] = 41
          · have t3 : ((s[k].toNat : Int) == 41) = true := eq_yes (n := 41) (by decide) h41
            have t5 : ((s[k].toNat : Int) == 13) = false := eq_no (n := 13) (by decide) (by rw [h41]; decide)
            by_cases h1 : o = 1
            · subst h1
              have HX := Lib.hid (H.out.symm.trans (textS_shut hlt h41))
              obtain ⟨p, cv, rfl⟩ := ownB_slice hown
              have hcv := convB hown
              clear H h92 h40 h41 hn1
              by_cases h32 : 32767 < acc.length
              · go_wp2
                refine bodyPost_ret (v := .tuple #[.string ⟨#[]⟩, .int .i64 0, .int .i64 5]) (by simp [results, Tryz.results110, go_sem]) rfl ⟨?_, (by repeat' (first | (with_reducible first | exact Below.refl _ _ | refine Below.drew ?_ | refine belowDrewN ?_ _ | refine belowIter ?_ ?_ _ _ | refine Below.setCell ?_ ?_ _ | refine Below.alloc ?_ ?_ _ | refine bT hb4 ?_ ?_ | refine bT hb3 ?_ ?_ | refine bT hb2 ?_ ?_ | refine bT hb1 ?_ ?_ | refine bT hbr ?_ ?_ | refine bT hb ?_ ?_) | (simp; done) | (simp; omega) | omega))⟩
                rw [HX.out]; simp only [HexOut]; rw [if_pos h32]
              · go_wp2
                refine bodyPost_ret (v := .tuple #[.string ⟨acc.toArray⟩, .int .i64 (k + 1), .int .i64 0]) (by simp [results, Tryz.results110, go_sem, show IntKind.i64.wrap ((k : Int) + 1) = (k : Int) + 1 from IntWalk.i64_in _ ⟨by omega, by omega⟩]) rfl ⟨?_, (by repeat' (first | (with_reducible first | exact Below.refl _ _ | refine Below.drew ?_ | refine belowDrewN ?_ _ | refine belowIter ?_ ?_ _ _ | refine Below.setCell ?_ ?_ _ | refine Below.alloc ?_ ?_ _ | refine bT hb4 ?_ ?_ | refine bT hb3 ?_ ?_ | refine bT hb2 ?_ ?_ | refine bT hb1 ?_ ?_ | refine bT hbr ?_ ?_ | refine bT hb ?_ ?_) | (simp; done) | (simp; omega) | omega))⟩
                rw [HX.out]; simp only [HexOut]; rw [if_neg h32, show a + (k - a + 1) = k + 1 by omega]; rfl
            · have t4 : ((o : Int) - 1 == 0) = false := by simp; omega
              have HX := Lib.hid (H.out.symm.trans ((textS_close hlt h41 h1).trans (by rw [hn1])))
              clear H h92 h40 h41 hn1
              go_wp2_with (at_builtin; go_must (refine append1 rfl _ _ rfl w.heap.size _ acc _ hown rfl rfl (by omega) hBr (by omega) (by omega) ?_); intro v3 w3 hown3 hb3 hz3; replace hb3 := hbr.trans hb3)
              go_roundw
              case rel => exact ⟨k + 1, acc ++ [s[k]], o - 1, by omega, by omega, by omega, by omega, by go_num, by congr 1; omega, by simpa using hown3, by simp; omega, hb3, HX.out.symm⟩
              case measure => simp [intOf]; omega
          · have t3 : ((s[k].toNat : Int) == 41) = false := eq_no (n := 41) (by decide) h41
            by_cases h13 : s[k] = 13
            · have t5 : ((s[k].toNat : Int) == 13) = true := eq_yes (n := 13) (by decide) h13
              have hX := H.out.symm.trans (textS_eol hlt (by rw [h13]; decide))
              have hl : lineN (s.data.toList.drop k) = if (s.data.toList.drop (k + 1)).head? = some 10 then 2 else 1 := by
                rw [drop_get s k hlt, lineN_cons, h13, if_neg (by decide), if_pos rfl]
              rw [hl] at hX
              by_cases hk3 : k + 1 < s.size
              · have q3 : (k : Int) + 1 < s.size := by omega
                rw [drop_get s (k + 1) hk3] at hX
                by_cases h10 : s[k + 1] = 10
                · have t6 : ((s[k + 1].toNat : Int) == 10) = true := eq_yes (n := 10) (by decide) h10
                  rw [if_pos (by rw [h10]; rfl), show k - a + 2 = k + 2 - a by omega] at hX
                  have HX := Lib.hid hX
                  clear H h92 h40 h41 h13 h10 hl hX hn1
                  go_wp2_with (at_builtin; go_must (refine append1 rfl _ _ rfl w.heap.size _ acc _ hown rfl rfl (by omega) hBr (by omega) (by omega) ?_); intro v3 w3 hown3 hb3 hz3; replace hb3 := hbr.trans hb3)
                  go_roundw
                  case rel => exact ⟨k + 2, acc ++ [10], o, by omega, by omega, by omega, by omega, by go_num, rfl, by simpa using hown3, by simp; omega, hb3, HX.out.symm⟩
                  case measure => simp [intOf]; omega
                · have t6 : ((s[k + 1].toNat : Int) == 10) = false := eq_no (n := 10) (by decide) h10
                  rw [if_neg (by simpa using h10), hn1] at hX
                  have HX := Lib.hid hX
                  clear H h92 h40 h41 h13 h10 hl hX hn1
                  go_wp2_with (at_builtin; go_must (refine append1 rfl _ _ rfl w.heap.size _ acc _ hown rfl rfl (by omega) hBr (by omega) (by omega) ?_); intro v3 w3 hown3 hb3 hz3; replace hb3 := hbr.trans hb3)
                  go_roundw
                  case rel => exact ⟨k + 1, acc ++ [10], o, by omega, by omega, by omega, by omega, by go_num, rfl, by simpa using hown3, by simp; omega, hb3, HX.out.symm⟩
                  case measure => simp [intOf]; omega
              · have q3 : ¬ (k : Int) + 1 < s.size := by omega
                rw [if_neg (by rw [List.drop_eq_nil_of_le (by simp; omega)]; simp), hn1] at hX
                have HX := Lib.hid hX
                clear H h92 h40 h41 h13 hl hX hn1
                go_wp2_with (at_builtin; go_must (refine append1 rfl _ _ rfl w.heap.size _ acc _ hown rfl rfl (by omega) hBr (by omega) (by omega) ?_); intro v3 w3 hown3 hb3 hz3; replace hb3 := hbr.trans hb3)
                go_roundw
                case rel => exact ⟨k + 1, acc ++ [10], o, by omega, by omega, by omega, by omega, by go_num, rfl, by simpa using hown3, by simp; omega, hb3, HX.out.symm⟩
                case measure => simp [intOf]; omega
            · have t5 : ((s[k].toNat : Int) == 13) = false := eq_no (n := 13) (by decide) h13
              have HX := Lib.hid (show T = textS (acc ++ [s[k]]) (k + 1 - a) o 0 (s.data.toList.drop (k + 1)) by
                have hH := H.out.symm
                by_cases h10 : s[k] = 10
                · rw [textS_eol hlt (by rw [h10]; decide)] at hH
                  have hl : lineN (s.data.toList.drop k) = 1 := by rw [drop_get s k hlt, lineN_cons, if_pos h10]
                  rw [hl, hn1] at hH
                  rw [h10]; exact hH
                · rw [textS_plain hlt (by simp [eol, h13, h10]) h92 h40 h41, hn1] at hH
                  exact hH)
              clear H h92 h40 h41 h13 hn1
              go_wp2_with (at_builtin; go_must (refine append1 rfl _ _ rfl w.heap.size _ acc _ hown rfl rfl (by omega) hBr (by omega) (by omega) ?_); intro v3 w3 hown3 hb3 hz3; replace hb3 := hbr.trans hb3)
              go_roundw
              case rel => exact ⟨k + 1, acc ++ [s[k]], o, by omega, by omega, by omega, by omega, by go_num, rfl, by simpa using hown3, by simp; omega, hb3, HX.out.symm⟩
              case measure => simp [intOf]; omega
    · have HX := Lib.hid (show T = .bad 4 by have := H.out; rw [List.drop_eq_nil_of_le (by simp; omega), textS_end] at this; exact this.symm)
      clear H
      go_wp2
      refine bodyPost_ret (v := .tuple #[.string ⟨#[]⟩, .int .i64 0, .int .i64 4]) (by simp [results, Tryz.results110, go_sem]) rfl ⟨by rw [HX.out]; rfl, (by repeat' (first | (with_reducible first | exact Below.refl _ _ | refine Below.drew ?_ | refine belowDrewN ?_ _ | refine belowIter ?_ ?_ _ _ | refine Below.setCell ?_ ?_ _ | refine Below.alloc ?_ ?_ _ | refine bT hb4 ?_ ?_ | refine bT hb3 ?_ ?_ | refine bT hb2 ?_ ?_ | refine bT hb1 ?_ ?_ | refine bT hbr ?_ ?_ | refine bT hb ?_ ?_) | (simp; done) | (simp; omega) | omega))⟩
end Go.Proofs.YtibffdaljmmdoaaGreatDoor
/- The walk of foliantref03.token. -/
namespace Go.Proofs.YtibffdaljmmdoaaGreatDoor
open Go.RowKit Fo

theorem hexT_two (l : L) : hexT l = strOf (pairR (hexG [] 0 l)) := by
  unfold hexT
  have := (hex_two l [] 0 rfl).1
  simp only [pairs] at this
  rw [this]
theorem hexOut_shape (a : Nat) (R : Res (L × Nat)) : ∃ (x : ByteArray) (y z : Int), HexOut a R = .tuple #[.string x, .int .i64 y, .int .i64 z] := by
  cases R with
  | bad e => exact ⟨_, _, _, rfl⟩
  | good x => unfold HexOut; dsimp only; split <;> exact ⟨_, _, _, rfl⟩
theorem strOf_out (a : Nat) (R : Res (L × Nat)) (hR : ∀ e, R = .bad e → e ≠ 0) :
    (∃ k, strOf R = .bad k ∧ (k != 0) = true ∧ HexOut (a + 1) R = .tuple #[.string ⟨#[]⟩, .int .i64 0, .int .i64 k]) ∨
    (∃ (x : L) (n : Nat), strOf R = .good ⟨3, n + 1, 0, x⟩ ∧ HexOut (a + 1) R = .tuple #[.string ⟨x.toArray⟩, .int .i64 (a + 1 + n : Nat), .int .i64 0]) := by
  cases R with
  | bad e => exact .inl ⟨e, rfl, by simpa using hR e rfl, rfl⟩
  | good x =>
    by_cases h : 32767 < x.1.length
    · exact .inl ⟨5, by simp [strOf, told, h], rfl, by simp [HexOut, h]⟩
    · exact .inr ⟨x.1, x.2, by simp [strOf, told, h], by simp [HexOut, h]⟩
theorem nameT_out (l : L) : (∃ k, nameT l = .bad k ∧ (k != 0) = true ∧ NameOut (nameS [] 0 (l.take (regN l))) = .tuple #[.string ⟨#[]⟩, .int .i64 k]) ∨
    (∃ x : L, nameT l = .good ⟨4, regN l + 1, 0, x⟩ ∧ NameOut (nameS [] 0 (l.take (regN l))) = .tuple #[.string ⟨x.toArray⟩, .int .i64 0]) := by
  unfold nameT
  cases h : nameS [] 0 (l.take (regN l)) with
  | bad e => have := nameS_bad' h; subst this; exact .inl ⟨3, rfl, rfl, rfl⟩
  | good x =>
    by_cases h2 : 127 < x.length
    · exact .inl ⟨5, by simp [nameOf, told, h2], rfl, by simp [NameOut, h2]⟩
    · exact .inr ⟨x, by simp [nameOf, told, h2], by simp [NameOut, h2]⟩
theorem ext_run (s : ByteArray) (a N : Nat) : (s.extract a (a + N)).data.toList = (s.data.toList.drop a).take N := by
  rw [Lib.extract_data, show a + N - a = N by omega]
theorem pairR_codes {l : L} {e : Int} (h : pairR (hexG [] 0 l) = .bad e) : e ≠ 0 := by
  have h2 := (hex_two l [] 0 rfl).1
  simp only [pairs] at h2
  rw [← h2] at h
  have := hexS_bad' h; omega
set_option maxRecDepth 100000 in
set_option maxHeartbeats 4000000 in
theorem rtoken (s : ByteArray) (a : Nat) (ha : a < s.size) (hs : s.size ≤ 140737488355327) (w : World) :
    Calls Tryz.prog 73 #[.string s, .int .i64 a] w fun e w' => e = .returned (tokR a (tokT (s.data.toList.drop a))) ∧ Below w.heap.size w w' := by
  have hmx : s.size ≤ maxLen := by unfold maxLen; omega
  obtain ⟨X, hX⟩ : ∃ X, tokT (s.data.toList.drop a) = X := ⟨_, rfl⟩
  rw [hX]
  have hX0 := hX
  rw [drop_get s a ha] at hX
  unfold tokT at hX
  obtain ⟨b, hd⟩ : ∃ b, ((s.data.toList.drop (a + 1)).head? == some s[a]) = b := ⟨_, rfl⟩
  have HD := Lib.hid hd
  by_cases h60 : s[a] = 60
  · have t60 : ((s[a].toNat : Int) == 60) = true := eq_yes (n := 60) (by decide) h60
    cases b with
    | true =>
      have hh : (s.data.toList.drop (a + 1)).head? = some 60 := by rw [← h60]; simpa using hd
      obtain ⟨hl2, hc2⟩ := dbl_lt hh
      have hl3 : (a : Int) + 2 ≤ s.size := by omega
      have HX := Lib.hid (show X = .good ⟨6, 2, 0, [60, 60]⟩ by rw [← hX, h60]; dsimp only; rw [if_neg (by decide), if_pos (by decide), if_pos hh])
      have HE := Lib.hid (show s.extract a (a + 2) = ⟨#[60, 60]⟩ by rw [ext2 s a hl2, h60, hc2])
      clear hX hX0 hd h60 hh hc2 hmx
      go_enter Tryz.func73, Tryz.ntmps73
      go_upto_region 2 with fail
      go_cut [7] (fun d wx => d = .bool true ∧ wx = w.alloc (.cells #[.int .i64 0, .int .i64 0, .int .i64 0, .int .i64 0, .string ⟨#[]⟩] 59))
      case first =>
        have HDD := HD.out
        by_cases q0 : a + 1 < s.size
        · have q1 : (a : Int) + 1 < s.size := by omega
          rw [drop_get s (a + 1) q0] at HDD
          have q2 : ((s[a + 1].toNat : Int) == (s[a].toNat : Int)) = true := by rw [← HDD]; simp only [List.head?_cons]; rw [Bool.eq_iff_iff]; simp [← UInt8.toNat_inj]; omega
          clear HDD
          go_wp2_with fail
          all_goals go_meet
          all_goals simp [q2]
        · have q1 : ¬ (a : Int) + 1 < s.size := by omega
          rw [List.drop_eq_nil_of_le (by simp; omega)] at HDD
          have q2 : true = false := HDD.symm.trans (by rfl)
          clear HDD
          first
          | exact absurd q2 (by decide)
          | (go_wp2_with fail
             all_goals go_meet
             all_goals simp [q2])
      case rest =>
        obtain ⟨rfl, rfl⟩ := hcut
        go_wp2
        refine bodyPost_ret (v := .tuple #[.agg #[.int .i64 6, .int .i64 a, .int .i64 (a + 2), .int .i64 0, .string (s.extract a (a + 2))], .int .i64 0]) (by simp [results, Tryz.results73, go_sem]) rfl ⟨by rw [HX.out, HE.out]; simp [tokR], (by repeat' (first | (with_reducible first | exact Below.refl _ _ | refine Below.drew ?_ | refine belowDrewN ?_ _ | refine belowIter ?_ ?_ _ _ | refine Below.setCell ?_ ?_ _ | refine Below.alloc ?_ ?_ _ | refine bT hb4 ?_ ?_ | refine bT hb3 ?_ ?_ | refine bT hb2 ?_ ?_ | refine bT hb1 ?_ ?_ | refine bT hbr ?_ ?_ | refine bT hb ?_ ?_) | (simp; done) | (simp; omega) | omega))⟩
    | false =>
      have hh : ¬ (s.data.toList.drop (a + 1)).head? = some 60 := by rw [← h60]; simpa using hd
      have hXX : hexT (s.data.toList.drop (a + 1)) = X := by rw [← hX, h60]; dsimp only; rw [if_neg (by decide), if_pos (by decide), if_neg hh]
      rw [hexT_two] at hXX
      have hso := strOf_out a (pairR (hexG [] 0 (s.data.toList.drop (a + 1)))) (fun e he => pairR_codes he)
      rw [hXX] at hso
      have t62 : ((s[a].toNat : Int) == 62) = false := eq_no (n := 62) (by decide) (by rw [h60]; decide)
      have t91 : ((s[a].toNat : Int) == 91) = false := eq_no (n := 91) (by decide) (by rw [h60]; decide)
      have t93 : ((s[a].toNat : Int) == 93) = false := eq_no (n := 93) (by decide) (by rw [h60]; decide)
      have t123 : ((s[a].toNat : Int) == 123) = false := eq_no (n := 123) (by decide) (by rw [h60]; decide)
      have t125 : ((s[a].toNat : Int) == 125) = false := eq_no (n := 125) (by decide) (by rw [h60]; decide)
      have t41 : ((s[a].toNat : Int) == 41) = false := eq_no (n := 41) (by decide) (by rw [h60]; decide)
      have t47 : ((s[a].toNat : Int) == 47) = false := eq_no (n := 47) (by decide) (by rw [h60]; decide)
      have t40 : ((s[a].toNat : Int) == 40) = false := eq_no (n := 40) (by decide) (by rw [h60]; decide)
      have htx := fun W => rtext s (a + 1) (by omega) hs W
      obtain ⟨x0, y0, z0, hsh⟩ := hexOut_shape (a + 1) (textS [] 0 1 0 (s.data.toList.drop (a + 1)))
      rw [hsh] at htx
      have HTX := Lib.hid htx
      have hhx := fun W => rhex s (a + 1) (by omega) hs W
      clear hX hX0 hd h60 hh hmx htx hsh hXX
      rcases hso with ⟨k, hx1, hk0, hx2⟩ | ⟨x, n, hx1, hx2⟩
      · rw [hx2] at hhx
        have HHX := Lib.hid hhx
        have HX := Lib.hid hx1
        clear hhx hx1 hx2
        go_enter Tryz.func73, Tryz.ntmps73
        go_upto_region 2 with fail
        go_cut [7] (fun d wx => d = .bool false ∧ wx = w.alloc (.cells #[.int .i64 0, .int .i64 0, .int .i64 0, .int .i64 0, .string ⟨#[]⟩] 59))
        case first =>
          have HDD := HD.out
          by_cases q0 : a + 1 < s.size
          · have q1 : (a : Int) + 1 < s.size := by omega
            rw [drop_get s (a + 1) q0] at HDD
            have q2 : ((s[a + 1].toNat : Int) == (s[a].toNat : Int)) = false := by rw [← HDD]; simp only [List.head?_cons]; rw [Bool.eq_iff_iff]; simp [← UInt8.toNat_inj]; omega
            clear HDD
            go_wp2_with fail
            all_goals go_meet
            all_goals simp [q2]
          · have q1 : ¬ (a : Int) + 1 < s.size := by omega
            rw [List.drop_eq_nil_of_le (by simp; omega)] at HDD
            have q2 : false = false := HDD.symm.trans (by rfl)
            clear HDD
            first
            | exact absurd q2 (by decide)
            | (go_wp2_with fail
               all_goals go_meet
               all_goals simp [q2])
        case rest =>
          obtain ⟨rfl, rfl⟩ := hcut
          go_wp2_with fail
          refine (HTX.out _).mono ?_
          rintro e w1 ⟨rfl, hb1⟩
          go_wp2_with fail
          refine (HHX.out _).mono ?_
          rintro e w2 ⟨rfl, hb2⟩
          have hb3 := hb1.trans (hb2.mono hb1.size)
          obtain ⟨d0, d1, d2, d3, d4, df⟩ := five_at ((hb3.block _ (by simp)).trans (new_at w _))
          have dz : w.heap.size < w2.heap.size := by have := hb3.size; simp at this; omega
          clear hb1 hb2
          go_wp2
          refine bodyPost_ret (v := .tuple #[.agg #[.int .i64 0, .int .i64 0, .int .i64 0, .int .i64 0, .string ⟨#[]⟩], .int .i64 k]) (by simp [results, Tryz.results73, go_sem, d0, d1, d2, d3, d4, df, dz]) rfl ⟨by rw [HX.out]; rfl, (by repeat' (first | (with_reducible first | exact Below.refl _ _ | refine Below.drew ?_ | refine belowDrewN ?_ _ | refine belowIter ?_ ?_ _ _ | refine Below.setCell ?_ ?_ _ | refine Below.alloc ?_ ?_ _ | refine bT hb4 ?_ ?_ | refine bT hb3 ?_ ?_ | refine bT hb2 ?_ ?_ | refine bT hb1 ?_ ?_ | refine bT hbr ?_ ?_ | refine bT hb ?_ ?_) | (simp; done) | (simp; omega) | omega))⟩
      · rw [hx2] at hhx
        have HHX := Lib.hid hhx
        have HX := Lib.hid hx1
        clear hhx hx1 hx2
        go_enter Tryz.func73, Tryz.ntmps73
        go_upto_region 2 with fail
        go_cut [7] (fun d wx => d = .bool false ∧ wx = w.alloc (.cells #[.int .i64 0, .int .i64 0, .int .i64 0, .int .i64 0, .string ⟨#[]⟩] 59))
        case first =>
          have HDD := HD.out
          by_cases q0 : a + 1 < s.size
          · have q1 : (a : Int) + 1 < s.size := by omega
            rw [drop_get s (a + 1) q0] at HDD
            have q2 : ((s[a + 1].toNat : Int) == (s[a].toNat : Int)) = false := by rw [← HDD]; simp only [List.head?_cons]; rw [Bool.eq_iff_iff]; simp [← UInt8.toNat_inj]; omega
            clear HDD
            go_wp2_with fail
            all_goals go_meet
            all_goals simp [q2]
          · have q1 : ¬ (a : Int) + 1 < s.size := by omega
            rw [List.drop_eq_nil_of_le (by simp; omega)] at HDD
            have q2 : false = false := HDD.symm.trans (by rfl)
            clear HDD
            first
            | exact absurd q2 (by decide)
            | (go_wp2_with fail
               all_goals go_meet
               all_goals simp [q2])
        case rest =>
          obtain ⟨rfl, rfl⟩ := hcut
          go_wp2_with fail
          refine (HTX.out _).mono ?_
          rintro e w1 ⟨rfl, hb1⟩
          go_wp2_with fail
          refine (HHX.out _).mono ?_
          rintro e w2 ⟨rfl, hb2⟩
          have hb3 := hb1.trans (hb2.mono hb1.size)
          obtain ⟨d0, d1, d2, d3, d4, df⟩ := five_at ((hb3.block _ (by simp)).trans (new_at w _))
          have dz : w.heap.size < w2.heap.size := by have := hb3.size; simp at this; omega
          clear hb1 hb2
          go_wp2
          refine bodyPost_ret (v := .tuple #[.agg #[.int .i64 3, .int .i64 a, .int .i64 (a + 1 + n), .int .i64 0, .string ⟨x.toArray⟩], .int .i64 0]) (by simp [results, Tryz.results73, go_sem, d0, d1, d2, d3, d4, df, dz]) rfl ⟨by rw [HX.out]; simp [tokR]; omega, (by repeat' (first | (with_reducible first | exact Below.refl _ _ | refine Below.drew ?_ | refine belowDrewN ?_ _ | refine belowIter ?_ ?_ _ _ | refine Below.setCell ?_ ?_ _ | refine Below.alloc ?_ ?_ _ | refine bT hb4 ?_ ?_ | refine bT hb3 ?_ ?_ | refine bT hb2 ?_ ?_ | refine bT hb1 ?_ ?_ | refine bT hbr ?_ ?_ | refine bT hb ?_ ?_) | (simp; done) | (simp; omega) | omega))⟩
  · have t60 : ((s[a].toNat : Int) == 60) = false := eq_no (n := 60) (by decide) h60
    by_cases h62 : s[a] = 62
    · have t62 : ((s[a].toNat : Int) == 62) = true := eq_yes (n := 62) (by decide) h62
      cases b with
      | true =>
        have hh : (s.data.toList.drop (a + 1)).head? = some 62 := by rw [← h62]; simpa using hd
        obtain ⟨hl2, hc2⟩ := dbl_lt hh
        have hl3 : (a : Int) + 2 ≤ s.size := by omega
        have HX := Lib.hid (show X = .good ⟨6, 2, 0, [62, 62]⟩ by rw [← hX, h62]; dsimp only; rw [if_neg (by decide), if_neg (by decide), if_pos (by decide), if_pos hh])
        have HE := Lib.hid (show s.extract a (a + 2) = ⟨#[62, 62]⟩ by rw [ext2 s a hl2, h62, hc2])
        clear hX hX0 hd h60 h62 hh hc2 hmx
        go_enter Tryz.func73, Tryz.ntmps73
        go_upto_region 2 with fail
        go_cut [7] (fun d wx => d = .bool true ∧ wx = w.alloc (.cells #[.int .i64 0, .int .i64 0, .int .i64 0, .int .i64 0, .string ⟨#[]⟩] 59))
        case first =>
          have HDD := HD.out
          by_cases q0 : a + 1 < s.size
          · have q1 : (a : Int) + 1 < s.size := by omega
            rw [drop_get s (a + 1) q0] at HDD
            have q2 : ((s[a + 1].toNat : Int) == (s[a].toNat : Int)) = true := by rw [← HDD]; simp only [List.head?_cons]; rw [Bool.eq_iff_iff]; simp [← UInt8.toNat_inj]; omega
            clear HDD
            go_wp2_with fail
            all_goals go_meet
            all_goals simp [q2]
          · have q1 : ¬ (a : Int) + 1 < s.size := by omega
            rw [List.drop_eq_nil_of_le (by simp; omega)] at HDD
            have q2 : true = false := HDD.symm.trans (by rfl)
            clear HDD
            first
            | exact absurd q2 (by decide)
            | (go_wp2_with fail
               all_goals go_meet
               all_goals simp [q2])
        case rest =>
          obtain ⟨rfl, rfl⟩ := hcut
          go_wp2
          refine bodyPost_ret (v := .tuple #[.agg #[.int .i64 6, .int .i64 a, .int .i64 (a + 2), .int .i64 0, .string (s.extract a (a + 2))], .int .i64 0]) (by simp [results, Tryz.results73, go_sem]) rfl ⟨by rw [HX.out, HE.out]; simp [tokR], (by repeat' (first | (with_reducible first | exact Below.refl _ _ | refine Below.drew ?_ | refine belowDrewN ?_ _ | refine belowIter ?_ ?_ _ _ | refine Below.setCell ?_ ?_ _ | refine Below.alloc ?_ ?_ _ | refine bT hb4 ?_ ?_ | refine bT hb3 ?_ ?_ | refine bT hb2 ?_ ?_ | refine bT hb1 ?_ ?_ | refine bT hbr ?_ ?_ | refine bT hb ?_ ?_) | (simp; done) | (simp; omega) | omega))⟩
      | false =>
        have hh : ¬ (s.data.toList.drop (a + 1)).head? = some 62 := by rw [← h62]; simpa using hd
        have HX := Lib.hid (show X = .bad 3 by rw [← hX, h62]; dsimp only; rw [if_neg (by decide), if_neg (by decide), if_pos (by decide), if_neg hh])
        have t91 : ((s[a].toNat : Int) == 91) = false := eq_no (n := 91) (by decide) (by rw [h62]; decide)
        have t93 : ((s[a].toNat : Int) == 93) = false := eq_no (n := 93) (by decide) (by rw [h62]; decide)
        have t123 : ((s[a].toNat : Int) == 123) = false := eq_no (n := 123) (by decide) (by rw [h62]; decide)
        have t125 : ((s[a].toNat : Int) == 125) = false := eq_no (n := 125) (by decide) (by rw [h62]; decide)
        clear hX hX0 hd h60 h62 hh hmx
        go_enter Tryz.func73, Tryz.ntmps73
        go_upto_region 2 with fail
        go_cut [7] (fun d wx => d = .bool false ∧ wx = w.alloc (.cells #[.int .i64 0, .int .i64 0, .int .i64 0, .int .i64 0, .string ⟨#[]⟩] 59))
        case first =>
          have HDD := HD.out
          by_cases q0 : a + 1 < s.size
          · have q1 : (a : Int) + 1 < s.size := by omega
            rw [drop_get s (a + 1) q0] at HDD
            have q2 : ((s[a + 1].toNat : Int) == (s[a].toNat : Int)) = false := by rw [← HDD]; simp only [List.head?_cons]; rw [Bool.eq_iff_iff]; simp [← UInt8.toNat_inj]; omega
            clear HDD
            go_wp2_with fail
            all_goals go_meet
            all_goals simp [q2]
          · have q1 : ¬ (a : Int) + 1 < s.size := by omega
            rw [List.drop_eq_nil_of_le (by simp; omega)] at HDD
            have q2 : false = false := HDD.symm.trans (by rfl)
            clear HDD
            first
            | exact absurd q2 (by decide)
            | (go_wp2_with fail
               all_goals go_meet
               all_goals simp [q2])
        case rest =>
          obtain ⟨rfl, rfl⟩ := hcut
          go_wp2
          refine bodyPost_ret (v := .tuple #[.agg #[.int .i64 0, .int .i64 0, .int .i64 0, .int .i64 0, .string ⟨#[]⟩], .int .i64 3]) (by simp [results, Tryz.results73, go_sem]) rfl ⟨by rw [HX.out]; rfl, (by repeat' (first | (with_reducible first | exact Below.refl _ _ | refine Below.drew ?_ | refine belowDrewN ?_ _ | refine belowIter ?_ ?_ _ _ | refine Below.setCell ?_ ?_ _ | refine Below.alloc ?_ ?_ _ | refine bT hb4 ?_ ?_ | refine bT hb3 ?_ ?_ | refine bT hb2 ?_ ?_ | refine bT hb1 ?_ ?_ | refine bT hbr ?_ ?_ | refine bT hb ?_ ?_) | (simp; done) | (simp; omega) | omega))⟩
    · have t62 : ((s[a].toNat : Int) == 62) = false := eq_no (n := 62) (by decide) h62
      by_cases h91 : s[a] = 91
      · have t91 : ((s[a].toNat : Int) == 91) = true := eq_yes (n := 91) (by decide) h91
        have HX := Lib.hid (show X = .good ⟨6, 1, 0, [s[a]]⟩ by rw [← hX, h91]; rfl)
        have HE := Lib.hid (ext1 s a ha)
        clear hX hX0 hd h60 h62 h91 hmx
        go_enter Tryz.func73, Tryz.ntmps73
        go_upto_region 2 with fail
        go_cut [7] (fun d wx => d = .bool b ∧ wx = w.alloc (.cells #[.int .i64 0, .int .i64 0, .int .i64 0, .int .i64 0, .string ⟨#[]⟩] 59))
        case first =>
          have HDD := HD.out
          by_cases q0 : a + 1 < s.size
          · have q1 : (a : Int) + 1 < s.size := by omega
            rw [drop_get s (a + 1) q0] at HDD
            have q2 : ((s[a + 1].toNat : Int) == (s[a].toNat : Int)) = b := by rw [← HDD]; simp only [List.head?_cons]; rw [Bool.eq_iff_iff]; simp [← UInt8.toNat_inj]; omega
            clear HDD
            go_wp2_with fail
            all_goals go_meet
            all_goals simp [q2]
          · have q1 : ¬ (a : Int) + 1 < s.size := by omega
            rw [List.drop_eq_nil_of_le (by simp; omega)] at HDD
            have q2 : b = false := HDD.symm.trans (by rfl)
            clear HDD
            first
            | exact absurd q2 (by decide)
            | (go_wp2_with fail
               all_goals go_meet
               all_goals simp [q2])
        case rest =>
          obtain ⟨rfl, rfl⟩ := hcut
          go_wp2
          refine bodyPost_ret (v := .tuple #[.agg #[.int .i64 6, .int .i64 a, .int .i64 (a + 1), .int .i64 0, .string (s.extract a (a + 1))], .int .i64 0]) (by simp [results, Tryz.results73, go_sem]) rfl ⟨by rw [HX.out, HE.out]; simp [tokR], (by repeat' (first | (with_reducible first | exact Below.refl _ _ | refine Below.drew ?_ | refine belowDrewN ?_ _ | refine belowIter ?_ ?_ _ _ | refine Below.setCell ?_ ?_ _ | refine Below.alloc ?_ ?_ _ | refine bT hb4 ?_ ?_ | refine bT hb3 ?_ ?_ | refine bT hb2 ?_ ?_ | refine bT hb1 ?_ ?_ | refine bT hbr ?_ ?_ | refine bT hb ?_ ?_) | (simp; done) | (simp; omega) | omega))⟩
      have t91 : ((s[a].toNat : Int) == 91) = false := eq_no (n := 91) (by decide) h91
      by_cases h93 : s[a] = 93
      · have t93 : ((s[a].toNat : Int) == 93) = true := eq_yes (n := 93) (by decide) h93
        have HX := Lib.hid (show X = .good ⟨6, 1, 0, [s[a]]⟩ by rw [← hX, h93]; rfl)
        have HE := Lib.hid (ext1 s a ha)
        clear hX hX0 hd h60 h62 h91 h93 hmx
        go_enter Tryz.func73, Tryz.ntmps73
        go_upto_region 2 with fail
        go_cut [7] (fun d wx => d = .bool b ∧ wx = w.alloc (.cells #[.int .i64 0, .int .i64 0, .int .i64 0, .int .i64 0, .string ⟨#[]⟩] 59))
        case first =>
          have HDD := HD.out
          by_cases q0 : a + 1 < s.size
          · have q1 : (a : Int) + 1 < s.size := by omega
            rw [drop_get s (a + 1) q0] at HDD
            have q2 : ((s[a + 1].toNat : Int) == (s[a].toNat : Int)) = b := by rw [← HDD]; simp only [List.head?_cons]; rw [Bool.eq_iff_iff]; simp [← UInt8.toNat_inj]; omega
            clear HDD
            go_wp2_with fail
            all_goals go_meet
            all_goals simp [q2]
          · have q1 : ¬ (a : Int) + 1 < s.size := by omega
            rw [List.drop_eq_nil_of_le (by simp; omega)] at HDD
            have q2 : b = false := HDD.symm.trans (by rfl)
            clear HDD
            first
            | exact absurd q2 (by decide)
            | (go_wp2_with fail
               all_goals go_meet
               all_goals simp [q2])
        case rest =>
          obtain ⟨rfl, rfl⟩ := hcut
          go_wp2
          refine bodyPost_ret (v := .tuple #[.agg #[.int .i64 6, .int .i64 a, .int .i64 (a + 1), .int .i64 0, .string (s.extract a (a + 1))], .int .i64 0]) (by simp [results, Tryz.results73, go_sem]) rfl ⟨by rw [HX.out, HE.out]; simp [tokR], (by repeat' (first | (with_reducible first | exact Below.refl _ _ | refine Below.drew ?_ | refine belowDrewN ?_ _ | refine belowIter ?_ ?_ _ _ | refine Below.setCell ?_ ?_ _ | refine Below.alloc ?_ ?_ _ | refine bT hb4 ?_ ?_ | refine bT hb3 ?_ ?_ | refine bT hb2 ?_ ?_ | refine bT hb1 ?_ ?_ | refine bT hbr ?_ ?_ | refine bT hb ?_ ?_) | (simp; done) | (simp; omega) | omega))⟩
      have t93 : ((s[a].toNat : Int) == 93) = false := eq_no (n := 93) (by decide) h93
      by_cases h123 : s[a] = 123
      · have t123 : ((s[a].toNat : Int) == 123) = true := eq_yes (n := 123) (by decide) h123
        have HX := Lib.hid (show X = .good ⟨6, 1, 0, [s[a]]⟩ by rw [← hX, h123]; rfl)
        have HE := Lib.hid (ext1 s a ha)
        clear hX hX0 hd h60 h62 h91 h93 h123 hmx
        go_enter Tryz.func73, Tryz.ntmps73
        go_upto_region 2 with fail
        go_cut [7] (fun d wx => d = .bool b ∧ wx = w.alloc (.cells #[.int .i64 0, .int .i64 0, .int .i64 0, .int .i64 0, .string ⟨#[]⟩] 59))
        case first =>
          have HDD := HD.out
          by_cases q0 : a + 1 < s.size
          · have q1 : (a : Int) + 1 < s.size := by omega
            rw [drop_get s (a + 1) q0] at HDD
            have q2 : ((s[a + 1].toNat : Int) == (s[a].toNat : Int)) = b := by rw [← HDD]; simp only [List.head?_cons]; rw [Bool.eq_iff_iff]; simp [← UInt8.toNat_inj]; omega
            clear HDD
            go_wp2_with fail
            all_goals go_meet
            all_goals simp [q2]
          · have q1 : ¬ (a : Int) + 1 < s.size := by omega
            rw [List.drop_eq_nil_of_le (by simp; omega)] at HDD
            have q2 : b = false := HDD.symm.trans (by rfl)
            clear HDD
            first
            | exact absurd q2 (by decide)
            | (go_wp2_with fail
               all_goals go_meet
               all_goals simp [q2])
        case rest =>
          obtain ⟨rfl, rfl⟩ := hcut
          go_wp2
          refine bodyPost_ret (v := .tuple #[.agg #[.int .i64 6, .int .i64 a, .int .i64 (a + 1), .int .i64 0, .string (s.extract a (a + 1))], .int .i64 0]) (by simp [results, Tryz.results73, go_sem]) rfl ⟨by rw [HX.out, HE.out]; simp [tokR], (by repeat' (first | (with_reducible first | exact Below.refl _ _ | refine Below.drew ?_ | refine belowDrewN ?_ _ | refine belowIter ?_ ?_ _ _ | refine Below.setCell ?_ ?_ _ | refine Below.alloc ?_ ?_ _ | refine bT hb4 ?_ ?_ | refine bT hb3 ?_ ?_ | refine bT hb2 ?_ ?_ | refine bT hb1 ?_ ?_ | refine bT hbr ?_ ?_ | refine bT hb ?_ ?_) | (simp; done) | (simp; omega) | omega))⟩
      have t123 : ((s[a].toNat : Int) == 123) = false := eq_no (n := 123) (by decide) h123
      by_cases h125 : s[a] = 125
      · have t125 : ((s[a].toNat : Int) == 125) = true := eq_yes (n := 125) (by decide) h125
        have HX := Lib.hid (show X = .good ⟨6, 1, 0, [s[a]]⟩ by rw [← hX, h125]; rfl)
        have HE := Lib.hid (ext1 s a ha)
        clear hX hX0 hd h60 h62 h91 h93 h123 h125 hmx
        go_enter Tryz.func73, Tryz.ntmps73
        go_upto_region 2 with fail
        go_cut [7] (fun d wx => d = .bool b ∧ wx = w.alloc (.cells #[.int .i64 0, .int .i64 0, .int .i64 0, .int .i64 0, .string ⟨#[]⟩] 59))
        case first =>
          have HDD := HD.out
          by_cases q0 : a + 1 < s.size
          · have q1 : (a : Int) + 1 < s.size := by omega
            rw [drop_get s (a + 1) q0] at HDD
            have q2 : ((s[a + 1].toNat : Int) == (s[a].toNat : Int)) = b := by rw [← HDD]; simp only [List.head?_cons]; rw [Bool.eq_iff_iff]; simp [← UInt8.toNat_inj]; omega
            clear HDD
            go_wp2_with fail
            all_goals go_meet
            all_goals simp [q2]
          · have q1 : ¬ (a : Int) + 1 < s.size := by omega
            rw [List.drop_eq_nil_of_le (by simp; omega)] at HDD
            have q2 : b = false := HDD.symm.trans (by rfl)
            clear HDD
            first
            | exact absurd q2 (by decide)
            | (go_wp2_with fail
               all_goals go_meet
               all_goals simp [q2])
        case rest =>
          obtain ⟨rfl, rfl⟩ := hcut
          go_wp2
          refine bodyPost_ret (v := .tuple #[.agg #[.int .i64 6, .int .i64 a, .int .i64 (a + 1), .int .i64 0, .string (s.extract a (a + 1))], .int .i64 0]) (by simp [results, Tryz.results73, go_sem]) rfl ⟨by rw [HX.out, HE.out]; simp [tokR], (by repeat' (first | (with_reducible first | exact Below.refl _ _ | refine Below.drew ?_ | refine belowDrewN ?_ _ | refine belowIter ?_ ?_ _ _ | refine Below.setCell ?_ ?_ _ | refine Below.alloc ?_ ?_ _ | refine bT hb4 ?_ ?_ | refine bT hb3 ?_ ?_ | refine bT hb2 ?_ ?_ | refine bT hb1 ?_ ?_ | refine bT hbr ?_ ?_ | refine bT hb ?_ ?_) | (simp; done) | (simp; omega) | omega))⟩
      have t125 : ((s[a].toNat : Int) == 125) = false := eq_no (n := 125) (by decide) h125
      by_cases h41 : s[a] = 41
      · have t41 : ((s[a].toNat : Int) == 41) = true := eq_yes (n := 41) (by decide) h41
        have HX := Lib.hid (show X = .bad 3 by rw [← hX, h41]; rfl)
        clear hX hX0 hd h60 h62 h91 h93 h123 h125 h41 hmx
        go_enter Tryz.func73, Tryz.ntmps73
        go_upto_region 2 with fail
        go_cut [7] (fun d wx => d = .bool b ∧ wx = w.alloc (.cells #[.int .i64 0, .int .i64 0, .int .i64 0, .int .i64 0, .string ⟨#[]⟩] 59))
        case first =>
          have HDD := HD.out
          by_cases q0 : a + 1 < s.size
          · have q1 : (a : Int) + 1 < s.size := by omega
            rw [drop_get s (a + 1) q0] at HDD
            have q2 : ((s[a + 1].toNat : Int) == (s[a].toNat : Int)) = b := by rw [← HDD]; simp only [List.head?_cons]; rw [Bool.eq_iff_iff]; simp [← UInt8.toNat_inj]; omega
            clear HDD
            go_wp2_with fail
            all_goals go_meet
            all_goals simp [q2]
          · have q1 : ¬ (a : Int) + 1 < s.size := by omega
            rw [List.drop_eq_nil_of_le (by simp; omega)] at HDD
            have q2 : b = false := HDD.symm.trans (by rfl)
            clear HDD
            first
            | exact absurd q2 (by decide)
            | (go_wp2_with fail
               all_goals go_meet
               all_goals simp [q2])
        case rest =>
          obtain ⟨rfl, rfl⟩ := hcut
          go_wp2
          refine bodyPost_ret (v := .tuple #[.agg #[.int .i64 0, .int .i64 0, .int .i64 0, .int .i64 0, .string ⟨#[]⟩], .int .i64 3]) (by simp [results, Tryz.results73, go_sem]) rfl ⟨by rw [HX.out]; rfl, (by repeat' (first | (with_reducible first | exact Below.refl _ _ | refine Below.drew ?_ | refine belowDrewN ?_ _ | refine belowIter ?_ ?_ _ _ | refine Below.setCell ?_ ?_ _ | refine Below.alloc ?_ ?_ _ | refine bT hb4 ?_ ?_ | refine bT hb3 ?_ ?_ | refine bT hb2 ?_ ?_ | refine bT hb1 ?_ ?_ | refine bT hbr ?_ ?_ | refine bT hb ?_ ?_) | (simp; done) | (simp; omega) | omega))⟩
      have t41 : ((s[a].toNat : Int) == 41) = false := eq_no (n := 41) (by decide) h41
      by_cases h47 : s[a] = 47
      · have t47 : ((s[a].toNat : Int) == 47) = true := eq_yes (n := 47) (by decide) h47
        have hXX : nameT (s.data.toList.drop (a + 1)) = X := by rw [← hX, h47]; rfl
        have hrun := fun W => rrun s (a + 1) (by omega) hmx W
        have hno := nameT_out (s.data.toList.drop (a + 1))
        have hNle : a + 1 + regN (s.data.toList.drop (a + 1)) ≤ s.size := by have := regN_le' (s.data.toList.drop (a + 1)); simp at this; omega
        have hnm := fun W => rname (s.extract (a + 1) (a + 1 + regN (s.data.toList.drop (a + 1)))) (by simp; omega) W
        rw [ext_run] at hnm
        rw [hXX] at hno
        obtain ⟨N, hN⟩ : ∃ N, regN (s.data.toList.drop (a + 1)) = N := ⟨_, rfl⟩
        rw [hN] at hrun hno hNle hnm
        have HRUN := Lib.hid hrun
        clear hX hX0 hXX hd h60 h62 h91 h93 h123 h125 h41 h47 hmx hrun hN
        rcases hno with ⟨k, hx1, hk0, hx2⟩ | ⟨x, hx1, hx2⟩
        · rw [hx2] at hnm
          have HNM := Lib.hid hnm
          have HX := Lib.hid hx1
          clear hnm hx1 hx2
          go_enter Tryz.func73, Tryz.ntmps73
          go_upto_region 2 with fail
          go_cut [7] (fun d wx => d = .bool b ∧ wx = w.alloc (.cells #[.int .i64 0, .int .i64 0, .int .i64 0, .int .i64 0, .string ⟨#[]⟩] 59))
          case first =>
            have HDD := HD.out
            by_cases q0 : a + 1 < s.size
            · have q1 : (a : Int) + 1 < s.size := by omega
              rw [drop_get s (a + 1) q0] at HDD
              have q2 : ((s[a + 1].toNat : Int) == (s[a].toNat : Int)) = b := by rw [← HDD]; simp only [List.head?_cons]; rw [Bool.eq_iff_iff]; simp [← UInt8.toNat_inj]; omega
              clear HDD
              go_wp2_with fail
              all_goals go_meet
              all_goals simp [q2]
            · have q1 : ¬ (a : Int) + 1 < s.size := by omega
              rw [List.drop_eq_nil_of_le (by simp; omega)] at HDD
              have q2 : b = false := HDD.symm.trans (by rfl)
              clear HDD
              first
              | exact absurd q2 (by decide)
              | (go_wp2_with fail
                 all_goals go_meet
                 all_goals simp [q2])
          case rest =>
            obtain ⟨rfl, rfl⟩ := hcut
            go_wp2_with (go_at_call 108; refine (HRUN.out _).mono ?_; rintro e w1 ⟨rfl, rfl⟩)
            refine (HNM.out _).mono ?_
            rintro e w2 ⟨rfl, hb2⟩
            obtain ⟨d0, d1, d2, d3, d4, df⟩ := five_at ((hb2.block _ (by simp)).trans (new_at w _))
            have dz : w.heap.size < w2.heap.size := by have := hb2.size; simp at this; omega
            go_wp2
            refine bodyPost_ret (v := .tuple #[.agg #[.int .i64 0, .int .i64 0, .int .i64 0, .int .i64 0, .string ⟨#[]⟩], .int .i64 k]) (by simp [results, Tryz.results73, go_sem, d0, d1, d2, d3, d4, df, dz]) rfl ⟨by rw [HX.out]; rfl, (by repeat' (first | (with_reducible first | exact Below.refl _ _ | refine Below.drew ?_ | refine belowDrewN ?_ _ | refine belowIter ?_ ?_ _ _ | refine Below.setCell ?_ ?_ _ | refine Below.alloc ?_ ?_ _ | refine bT hb4 ?_ ?_ | refine bT hb3 ?_ ?_ | refine bT hb2 ?_ ?_ | refine bT hb1 ?_ ?_ | refine bT hbr ?_ ?_ | refine bT hb ?_ ?_) | (simp; done) | (simp; omega) | omega))⟩
        · rw [hx2] at hnm
          have HNM := Lib.hid hnm
          have HX := Lib.hid hx1
          clear hnm hx1 hx2
          go_enter Tryz.func73, Tryz.ntmps73
          go_upto_region 2 with fail
          go_cut [7] (fun d wx => d = .bool b ∧ wx = w.alloc (.cells #[.int .i64 0, .int .i64 0, .int .i64 0, .int .i64 0, .string ⟨#[]⟩] 59))
          case first =>
            have HDD := HD.out
            by_cases q0 : a + 1 < s.size
            · have q1 : (a : Int) + 1 < s.size := by omega
              rw [drop_get s (a + 1) q0] at HDD
              have q2 : ((s[a + 1].toNat : Int) == (s[a].toNat : Int)) = b := by rw [← HDD]; simp only [List.head?_cons]; rw [Bool.eq_iff_iff]; simp [← UInt8.toNat_inj]; omega
              clear HDD
              go_wp2_with fail
              all_goals go_meet
              all_goals simp [q2]
            · have q1 : ¬ (a : Int) + 1 < s.size := by omega
              rw [List.drop_eq_nil_of_le (by simp; omega)] at HDD
              have q2 : b = false := HDD.symm.trans (by rfl)
              clear HDD
              first
              | exact absurd q2 (by decide)
              | (go_wp2_with fail
                 all_goals go_meet
                 all_goals simp [q2])
          case rest =>
            obtain ⟨rfl, rfl⟩ := hcut
            go_wp2_with (go_at_call 108; refine (HRUN.out _).mono ?_; rintro e w1 ⟨rfl, rfl⟩)
            refine (HNM.out _).mono ?_
            rintro e w2 ⟨rfl, hb2⟩
            obtain ⟨d0, d1, d2, d3, d4, df⟩ := five_at ((hb2.block _ (by simp)).trans (new_at w _))
            have dz : w.heap.size < w2.heap.size := by have := hb2.size; simp at this; omega
            go_wp2
            refine bodyPost_ret (v := .tuple #[.agg #[.int .i64 4, .int .i64 a, .int .i64 (a + 1 + N), .int .i64 0, .string ⟨x.toArray⟩], .int .i64 0]) (by simp [results, Tryz.results73, go_sem, d0, d1, d2, d3, d4, df, dz]) rfl ⟨by rw [HX.out]; simp [tokR]; omega, (by repeat' (first | (with_reducible first | exact Below.refl _ _ | refine Below.drew ?_ | refine belowDrewN ?_ _ | refine belowIter ?_ ?_ _ _ | refine Below.setCell ?_ ?_ _ | refine Below.alloc ?_ ?_ _ | refine bT hb4 ?_ ?_ | refine bT hb3 ?_ ?_ | refine bT hb2 ?_ ?_ | refine bT hb1 ?_ ?_ | refine bT hbr ?_ ?_ | refine bT hb ?_ ?_) | (simp; done) | (simp; omega) | omega))⟩
      have t47 : ((s[a].toNat : Int) == 47) = false := eq_no (n := 47) (by decide) h47
      by_cases h40 : s[a] = 40
      · have t40 : ((s[a].toNat : Int) == 40) = true := eq_yes (n := 40) (by decide) h40
        have hXX : textT (s.data.toList.drop (a + 1)) = X := by rw [← hX, h40]; rfl
        unfold textT at hXX
        have hso := strOf_out a (textS [] 0 1 0 (s.data.toList.drop (a + 1))) (fun e he => by have := textS_bad he; omega)
        rw [hXX] at hso
        have htx := fun W => rtext s (a + 1) (by omega) hs W
        clear hX hX0 hXX hd h60 h62 h91 h93 h123 h125 h41 h47 h40 hmx
        rcases hso with ⟨k, hx1, hk0, hx2⟩ | ⟨x, n, hx1, hx2⟩
        · rw [hx2] at htx
          have HTX := Lib.hid htx
          have HX := Lib.hid hx1
          clear htx hx1 hx2
          go_enter Tryz.func73, Tryz.ntmps73
          go_upto_region 2 with fail
          go_cut [7] (fun d wx => d = .bool b ∧ wx = w.alloc (.cells #[.int .i64 0, .int .i64 0, .int .i64 0, .int .i64 0, .string ⟨#[]⟩] 59))
          case first =>
            have HDD := HD.out
            by_cases q0 : a + 1 < s.size
            · have q1 : (a : Int) + 1 < s.size := by omega
              rw [drop_get s (a + 1) q0] at HDD
              have q2 : ((s[a + 1].toNat : Int) == (s[a].toNat : Int)) = b := by rw [← HDD]; simp only [List.head?_cons]; rw [Bool.eq_iff_iff]; simp [← UInt8.toNat_inj]; omega
              clear HDD
              go_wp2_with fail
              all_goals go_meet
              all_goals simp [q2]
            · have q1 : ¬ (a : Int) + 1 < s.size := by omega
              rw [List.drop_eq_nil_of_le (by simp; omega)] at HDD
              have q2 : b = false := HDD.symm.trans (by rfl)
              clear HDD
              first
              | exact absurd q2 (by decide)
              | (go_wp2_with fail
                 all_goals go_meet
                 all_goals simp [q2])
          case rest =>
            obtain ⟨rfl, rfl⟩ := hcut
            go_wp2_with fail
            refine (HTX.out _).mono ?_
            rintro e w2 ⟨rfl, hb2⟩
            obtain ⟨d0, d1, d2, d3, d4, df⟩ := five_at ((hb2.block _ (by simp)).trans (new_at w _))
            have dz : w.heap.size < w2.heap.size := by have := hb2.size; simp at this; omega
            go_wp2
            refine bodyPost_ret (v := .tuple #[.agg #[.int .i64 0, .int .i64 0, .int .i64 0, .int .i64 0, .string ⟨#[]⟩], .int .i64 k]) (by simp [results, Tryz.results73, go_sem, d0, d1, d2, d3, d4, df, dz]) rfl ⟨by rw [HX.out]; rfl, (by repeat' (first | (with_reducible first | exact Below.refl _ _ | refine Below.drew ?_ | refine belowDrewN ?_ _ | refine belowIter ?_ ?_ _ _ | refine Below.setCell ?_ ?_ _ | refine Below.alloc ?_ ?_ _ | refine bT hb4 ?_ ?_ | refine bT hb3 ?_ ?_ | refine bT hb2 ?_ ?_ | refine bT hb1 ?_ ?_ | refine bT hbr ?_ ?_ | refine bT hb ?_ ?_) | (simp; done) | (simp; omega) | omega))⟩
        · rw [hx2] at htx
          have HTX := Lib.hid htx
          have HX := Lib.hid hx1
          clear htx hx1 hx2
          go_enter Tryz.func73, Tryz.ntmps73
          go_upto_region 2 with fail
          go_cut [7] (fun d wx => d = .bool b ∧ wx = w.alloc (.cells #[.int .i64 0, .int .i64 0, .int .i64 0, .int .i64 0, .string ⟨#[]⟩] 59))
          case first =>
            have HDD := HD.out
            by_cases q0 : a + 1 < s.size
            · have q1 : (a : Int) + 1 < s.size := by omega
              rw [drop_get s (a + 1) q0] at HDD
              have q2 : ((s[a + 1].toNat : Int) == (s[a].toNat : Int)) = b := by rw [← HDD]; simp only [List.head?_cons]; rw [Bool.eq_iff_iff]; simp [← UInt8.toNat_inj]; omega
              clear HDD
              go_wp2_with fail
              all_goals go_meet
              all_goals simp [q2]
            · have q1 : ¬ (a : Int) + 1 < s.size := by omega
              rw [List.drop_eq_nil_of_le (by simp; omega)] at HDD
              have q2 : b = false := HDD.symm.trans (by rfl)
              clear HDD
              first
              | exact absurd q2 (by decide)
              | (go_wp2_with fail
                 all_goals go_meet
                 all_goals simp [q2])
          case rest =>
            obtain ⟨rfl, rfl⟩ := hcut
            go_wp2_with fail
            refine (HTX.out _).mono ?_
            rintro e w2 ⟨rfl, hb2⟩
            obtain ⟨d0, d1, d2, d3, d4, df⟩ := five_at ((hb2.block _ (by simp)).trans (new_at w _))
            have dz : w.heap.size < w2.heap.size := by have := hb2.size; simp at this; omega
            go_wp2
            refine bodyPost_ret (v := .tuple #[.agg #[.int .i64 3, .int .i64 a, .int .i64 (a + 1 + n), .int .i64 0, .string ⟨x.toArray⟩], .int .i64 0]) (by simp [results, Tryz.results73, go_sem, d0, d1, d2, d3, d4, df, dz]) rfl ⟨by rw [HX.out]; simp [tokR]; omega, (by repeat' (first | (with_reducible first | exact Below.refl _ _ | refine Below.drew ?_ | refine belowDrewN ?_ _ | refine belowIter ?_ ?_ _ _ | refine Below.setCell ?_ ?_ _ | refine Below.alloc ?_ ?_ _ | refine bT hb4 ?_ ?_ | refine bT hb3 ?_ ?_ | refine bT hb2 ?_ ?_ | refine bT hb1 ?_ ?_ | refine bT hbr ?_ ?_ | refine bT hb ?_ ?_) | (simp; done) | (simp; omega) | omega))⟩
      have t40 : ((s[a].toNat : Int) == 40) = false := eq_no (n := 40) (by decide) h40
      have hrun := fun W => rrun s a (by omega) hmx W
      have hNle : a + regN (s.data.toList.drop a) ≤ s.size := by have := regN_le' (s.data.toList.drop a); simp at this; omega
      have hwd := fun W => rword (s.extract a (a + regN (s.data.toList.drop a))) (by simp; omega) W
      rw [ext_run] at hwd
      have hXX : wordT ((s.data.toList.drop a).take (regN (s.data.toList.drop a))) = X := by
        rw [← hX, drop_get s a ha]; simp [h60, h62, h91, h93, h123, h125, h41, h47, h40]
      rw [hXX] at hwd
      have hlen : ((s.data.toList.drop a).take (regN (s.data.toList.drop a))).length = regN (s.data.toList.drop a) := by
        rw [List.length_take]; have := regN_le' (s.data.toList.drop a); omega
      obtain ⟨l, hl⟩ : ∃ l, (s.data.toList.drop a).take (regN (s.data.toList.drop a)) = l := ⟨_, rfl⟩
      rw [hl] at hXX hlen
      obtain ⟨N, hN⟩ : ∃ N, regN (s.data.toList.drop a) = N := ⟨_, rfl⟩
      rw [hN] at hrun hNle hwd hlen
      have HRUN := Lib.hid hrun
      have HWD := Lib.hid hwd
      clear hX hX0 hd h60 h62 h91 h93 h123 h125 h41 h47 h40 hmx hrun hwd hl hN
      cases X with
      | bad k =>
        have hk0 : (k != 0) = true := by have := wordT_bad hXX; simp; omega
        clear hXX hlen
        go_enter Tryz.func73, Tryz.ntmps73
        go_upto_region 2 with fail
        go_cut [7] (fun d wx => d = .bool b ∧ wx = w.alloc (.cells #[.int .i64 0, .int .i64 0, .int .i64 0, .int .i64 0, .string ⟨#[]⟩] 59))
        case first =>
          have HDD := HD.out
          by_cases q0 : a + 1 < s.size
          · have q1 : (a : Int) + 1 < s.size := by omega
            rw [drop_get s (a + 1) q0] at HDD
            have q2 : ((s[a + 1].toNat : Int) == (s[a].toNat : Int)) = b := by rw [← HDD]; simp only [List.head?_cons]; rw [Bool.eq_iff_iff]; simp [← UInt8.toNat_inj]; omega
            clear HDD
            go_wp2_with fail
            all_goals go_meet
            all_goals simp [q2]
          · have q1 : ¬ (a : Int) + 1 < s.size := by omega
            rw [List.drop_eq_nil_of_le (by simp; omega)] at HDD
            have q2 : b = false := HDD.symm.trans (by rfl)
            clear HDD
            first
            | exact absurd q2 (by decide)
            | (go_wp2_with fail
               all_goals go_meet
               all_goals simp [q2])
        case rest =>
          obtain ⟨rfl, rfl⟩ := hcut
          go_wp2_with (go_at_call 108; refine (HRUN.out _).mono ?_; rintro e w1 ⟨rfl, rfl⟩)
          refine (HWD.out _).mono ?_
          rintro e w2 ⟨⟨kd, nn, rfl⟩, hb2⟩
          obtain ⟨d0, d1, d2, d3, d4, df⟩ := five_at ((hb2.block _ (by simp)).trans (new_at w _))
          have dz : w.heap.size < w2.heap.size := by have := hb2.size; simp at this; omega
          go_wp2
          refine bodyPost_ret (v := .tuple #[.agg #[.int .i64 0, .int .i64 0, .int .i64 0, .int .i64 0, .string ⟨#[]⟩], .int .i64 k]) (by simp [results, Tryz.results73, go_sem, d0, d1, d2, d3, d4, df, dz]) rfl ⟨rfl, (by repeat' (first | (with_reducible first | exact Below.refl _ _ | refine Below.drew ?_ | refine belowDrewN ?_ _ | refine belowIter ?_ ?_ _ _ | refine Below.setCell ?_ ?_ _ | refine Below.alloc ?_ ?_ _ | refine bT hb4 ?_ ?_ | refine bT hb3 ?_ ?_ | refine bT hb2 ?_ ?_ | refine bT hb1 ?_ ?_ | refine bT hbr ?_ ?_ | refine bT hb ?_ ?_) | (simp; done) | (simp; omega) | omega))⟩
      | good t =>
        have HL := Lib.hid (show t.len = N by have := (wordT_good hXX).1; omega)
        clear hXX hlen
        go_enter Tryz.func73, Tryz.ntmps73
        go_upto_region 2 with fail
        go_cut [7] (fun d wx => d = .bool b ∧ wx = w.alloc (.cells #[.int .i64 0, .int .i64 0, .int .i64 0, .int .i64 0, .string ⟨#[]⟩] 59))
        case first =>
          have HDD := HD.out
          by_cases q0 : a + 1 < s.size
          · have q1 : (a : Int) + 1 < s.size := by omega
            rw [drop_get s (a + 1) q0] at HDD
            have q2 : ((s[a + 1].toNat : Int) == (s[a].toNat : Int)) = b := by rw [← HDD]; simp only [List.head?_cons]; rw [Bool.eq_iff_iff]; simp [← UInt8.toNat_inj]; omega
            clear HDD
            go_wp2_with fail
            all_goals go_meet
            all_goals simp [q2]
          · have q1 : ¬ (a : Int) + 1 < s.size := by omega
            rw [List.drop_eq_nil_of_le (by simp; omega)] at HDD
            have q2 : b = false := HDD.symm.trans (by rfl)
            clear HDD
            first
            | exact absurd q2 (by decide)
            | (go_wp2_with fail
               all_goals go_meet
               all_goals simp [q2])
        case rest =>
          obtain ⟨rfl, rfl⟩ := hcut
          go_wp2_with (go_at_call 108; refine (HRUN.out _).mono ?_; rintro e w1 ⟨rfl, rfl⟩)
          refine (HWD.out _).mono ?_
          rintro e w2 ⟨rfl, hb2⟩
          obtain ⟨d0, d1, d2, d3, d4, df⟩ := five_at ((hb2.block _ (by simp)).trans (new_at w _))
          have dz : w.heap.size < w2.heap.size := by have := hb2.size; simp at this; omega
          go_wp2
          refine bodyPost_ret (v := .tuple #[.agg #[.int .i64 t.kind, .int .i64 a, .int .i64 (a + N), .int .i64 t.n, .string ⟨t.s.toArray⟩], .int .i64 0]) (by simp [results, Tryz.results73, go_sem, d0, d1, d2, d3, d4, df, dz]) rfl ⟨by simp [tokR, HL.out], (by repeat' (first | (with_reducible first | exact Below.refl _ _ | refine Below.drew ?_ | refine belowDrewN ?_ _ | refine belowIter ?_ ?_ _ _ | refine Below.setCell ?_ ?_ _ | refine Below.alloc ?_ ?_ _ | refine bT hb4 ?_ ?_ | refine bT hb3 ?_ ?_ | refine bT hb2 ?_ ?_ | refine bT hb1 ?_ ?_ | refine bT hbr ?_ ?_ | refine bT hb ?_ ?_) | (simp; done) | (simp; omega) | omega))⟩
end Go.Proofs.YtibffdaljmmdoaaGreatDoor
/- The walk of foliantref03.Next. -/
namespace Go.Proofs.YtibffdaljmmdoaaGreatDoor
open Go.RowKit Fo

theorem tokR_shape (a : Nat) (X : Res Tok) : ∃ (v0 v1 v2 v3 v5 : Int) (v4 : ByteArray), tokR a X = .tuple #[.agg #[.int .i64 v0, .int .i64 v1, .int .i64 v2, .int .i64 v3, .string v4], .int .i64 v5] := by
  cases X with
  | bad e => exact ⟨_, _, _, _, _, _, rfl⟩
  | good t => exact ⟨_, _, _, _, _, _, rfl⟩
set_option maxRecDepth 100000 in
set_option maxHeartbeats 1000000 in
theorem rnextT (s : ByteArray) (a : Nat) (ha : a ≤ s.size) (hs : s.size ≤ 140737488355327) (w : World) :
    Calls Tryz.prog 50 #[.string s, .int .i64 a] w fun e w' => e = .returned (tokR (a + (nextT (s.data.toList.drop a)).1) (nextT (s.data.toList.drop a)).2) ∧ Below w.heap.size w w' := by
  have hz0 : decide ((a : Int) < 0) = false := by simp
  have hz1 : decide (s.size < a) = false := by simp; omega
  unfold nextT
  have hsk := fun W => rskip s a ha hs W
  obtain ⟨p, hp0⟩ : ∃ p, a + skipN false (s.data.toList.drop a) = p := ⟨_, rfl⟩
  have hple : p ≤ s.size := by have := skipN_le false (s.data.toList.drop a); simp at this; omega
  rw [List.drop_drop]
  simp only [hp0]
  rw [hp0] at hsk
  have HP := Lib.hid hsk
  clear hp0 hsk
  by_cases hp : p < s.size
  · have hne : s.data.toList.drop p ≠ [] := by rw [drop_get s p hp]; simp
    rw [if_neg hne]
    have htk := fun W => rtoken s p hp hs W
    obtain ⟨V, hV⟩ : ∃ V, tokR p (tokT (s.data.toList.drop p)) = V := ⟨_, rfl⟩
    rw [hV] at htk
    rw [hV]
    obtain ⟨v0, v1, v2, v3, v5, v4, hsh⟩ := tokR_shape p (tokT (s.data.toList.drop p))
    rw [hV] at hsh
    subst hsh
    have HT := Lib.hid htk
    clear htk hV hne
    go_enter Tryz.func50, Tryz.ntmps50
    go_wp2_with (go_at_call 72; refine (HP.out _).mono ?_; rintro e w' ⟨rfl, rfl⟩)
    refine (HT.out _).mono ?_
    rintro e w2 ⟨rfl, hb2⟩
    obtain ⟨d0, d1, d2, d3, d4, df⟩ := five_at ((hb2.block _ (by simp)).trans (new_at w _))
    have dz : w.heap.size < w2.heap.size := by have := hb2.size; simp at this; omega
    go_wp2
    refine bodyPost_ret (v := .tuple #[.agg #[.int .i64 v0, .int .i64 v1, .int .i64 v2, .int .i64 v3, .string v4], .int .i64 v5]) (by simp [results, Tryz.results50, go_sem, d0, d1, d2, d3, d4, df, dz]) rfl ⟨rfl, (by repeat' (first | (with_reducible first | exact Below.refl _ _ | refine Below.drew ?_ | refine belowDrewN ?_ _ | refine belowIter ?_ ?_ _ _ | refine Below.setCell ?_ ?_ _ | refine Below.alloc ?_ ?_ _ | refine bT hb4 ?_ ?_ | refine bT hb3 ?_ ?_ | refine bT hb2 ?_ ?_ | refine bT hb1 ?_ ?_ | refine bT hbr ?_ ?_ | refine bT hb ?_ ?_) | (simp; done) | (simp; omega) | omega))⟩
  · have hp2 : p = s.size := by omega
    rw [if_pos (List.drop_eq_nil_of_le (by have : s.data.toList.length = s.size := rfl; omega))]
    subst hp2
    go_enter Tryz.func50, Tryz.ntmps50
    go_wp2_with (go_at_call 72; refine (HP.out _).mono ?_; rintro e w' ⟨rfl, rfl⟩)
    refine bodyPost_ret (v := .tuple #[.agg #[.int .i64 0, .int .i64 s.size, .int .i64 s.size, .int .i64 0, .string ⟨#[]⟩], .int .i64 0]) (by simp [results, Tryz.results50, go_sem]) rfl ⟨by simp [tokR], (by repeat' (first | (with_reducible first | exact Below.refl _ _ | refine Below.drew ?_ | refine belowDrewN ?_ _ | refine belowIter ?_ ?_ _ _ | refine Below.setCell ?_ ?_ _ | refine Below.alloc ?_ ?_ _ | refine bT hb4 ?_ ?_ | refine bT hb3 ?_ ?_ | refine bT hb2 ?_ ?_ | refine bT hb1 ?_ ?_ | refine bT hbr ?_ ?_ | refine bT hb ?_ ?_) | (simp; done) | (simp; omega) | omega))⟩
theorem rnext_tok (s : ByteArray) (a p : Nat) (t : Tok) (h : (nextT (s.data.toList.drop a)).2 = .good t) (hp : a + (nextT (s.data.toList.drop a)).1 = p) (ha : a ≤ s.size) (hs : s.size ≤ 140737488355327) (w : World) :
    Calls Tryz.prog 50 #[.string s, .int .i64 a] w fun e w' => e = .returned (.tuple #[.agg #[.int .i64 t.kind, .int .i64 p, .int .i64 ((p + t.len : Nat) : Int), .int .i64 t.n, .string ⟨t.s.toArray⟩], .int .i64 0]) ∧ Below w.heap.size w w' := by
  have := tok_good h (rnextT s a ha hs w)
  rw [hp] at this; exact this
theorem rnext_err (s : ByteArray) (a : Nat) (k : Int) (h : (nextT (s.data.toList.drop a)).2 = .bad k) (ha : a ≤ s.size) (hs : s.size ≤ 140737488355327) (w : World) :
    Calls Tryz.prog 50 #[.string s, .int .i64 a] w fun e w' => e = .returned (.tuple #[.agg #[.int .i64 0, .int .i64 0, .int .i64 0, .int .i64 0, .string ⟨#[]⟩], .int .i64 k]) ∧ Below w.heap.size w w' :=
  tok_bad h (rnextT s a ha hs w)
end Go.Proofs.YtibffdaljmmdoaaGreatDoor
