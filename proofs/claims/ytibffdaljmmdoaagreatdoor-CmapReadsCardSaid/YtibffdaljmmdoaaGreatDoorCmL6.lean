/- The walk of the statement on units and UTF-8. -/
import Derived.Test.YtibffdaljmmdoaaGreatDoorCmLv
set_option linter.all false
namespace Go.Proofs.YtibffdaljmmdoaaGreatDoor
open Go.RowKit Fo Go.Maps

theorem encR_len4 : ∀ (rs : List Nat), (encR rs).length ≤ 4 * rs.length
  | [] => by simp [encR]
  | c :: rs => by
    have h1 := encodeRune_len c
    have h2 := encR_len4 rs
    rw [encR_cons, List.length_append, List.length_cons]; omega
theorem utfS_len {s x : L} (h : utfS s = some x) : x.length ≤ 4 * s.length := by
  unfold utfS at h
  split at h
  · cases h
  · have h1 := text16_len h
    have h2 := unitsN_len s
    omega
theorem str_eq_self (x : L) : ((⟨x.toArray⟩ : ByteArray).toList == (⟨x.toArray⟩ : ByteArray).toList) = true := by simp
set_option maxRecDepth 100000 in
set_option maxHeartbeats 1000000 in
theorem cmunits_in (s : ByteArray) (hs : s.size ≤ 140737488355327) (m : Int) (w : World) (hm : MaxW w m) (hT : TabsW w) :
    Calls Tryz.prog 6 #[.string s] w fun e w' => e = .returned (.bool true) ∧ Below w.heap.size w w' := by
  have HL := Lib.hid (fun W hm hT => lives_in m W hm hT)
  have HM := Lib.hid (fun W (hW : Below w.heap.size w W) => hm.below hW)
  have HT := Lib.hid (fun W (hW : Below w.heap.size w W) => hT.below hW)
  by_cases h6 : 600 < s.size
  · have d0 : decide ((600 : Int) < (s.size : Int)) = true := by simp; omega
    clear h6
    go_enter Tryz.func6, Tryz.ntmps6
    go_wp2_with fail
    refine (HL.out _ hm hT).mono ?_
    rintro e w1 ⟨rfl, hb1⟩
    go_wp2
    go_ret
    exact ⟨rfl, hb1⟩
  have d0 : decide ((600 : Int) < (s.size : Int)) = false := by simp; omega
  have hsl : s.data.toList.length = s.size := by simp
  obtain ⟨l, hl⟩ : ∃ l, s.data.toList = l := ⟨_, rfl⟩
  obtain ⟨⟨d⟩⟩ := s
  obtain rfl : d = l := hl
  have hln : List.length d ≤ 600 := by simp at hsl; omega
  have e1 : utfS (unitsS d) = some (encR (runesS d)) := utf_units d
  have e2 : unitsS (encR (runesS d)) = unitsS d := units_utf_units d
  have hul := unitsS_len d
  have hrl : (runesS d).length ≤ d.length := runesF_len _ d
  have hel := encR_len4 (runesS d)
  obtain ⟨U, hU⟩ : ∃ U, unitsS d = U := ⟨_, rfl⟩
  obtain ⟨T, hT2⟩ : ∃ T, encR (runesS d) = T := ⟨_, rfl⟩
  rw [hU] at e1 e2 hul
  rw [hT2] at e1 e2 hel
  have HU := Lib.hid (fun W => units_lit d U hU (by omega) W)
  have HF := Lib.hid (fun W => utf_some U T e1 (by omega) W)
  have HV := Lib.hid (fun W => units_lit T U e2 (by omega) W)
  cases hR : utfS d with
  | none =>
    have HG := Lib.hid (fun W => utf_none d hR (by omega) W)
    clear hR e1 e2 hul hel hrl hU hT2 hsl h6
    go_enter Tryz.func6, Tryz.ntmps6
    go_wp2_with fail
    refine (HU.out _).mono ?_
    rintro e w1 ⟨rfl, hb1⟩
    have BW1 := Lib.hid hb1
    clear hb1
    go_wp2_with fail
    refine (HF.out _).mono ?_
    rintro e w2 ⟨rfl, hb2⟩
    have BW2 := Lib.hid (BW1.out.trans (hb2.mono BW1.out.size))
    clear hb2
    go_wp2_with fail
    refine (HG.out _).mono ?_
    rintro e w3 ⟨rfl, hb3⟩
    have BW3 := Lib.hid (BW2.out.trans (hb3.mono BW2.out.size))
    clear hb3
    go_wp2_with fail
    refine (HV.out _).mono ?_
    rintro e w4 ⟨rfl, hb4⟩
    have BW4 := Lib.hid (BW3.out.trans (hb4.mono BW3.out.size))
    clear hb4
    go_wp2_with fail
    refine (HU.out _).mono ?_
    rintro e w5 ⟨rfl, hb5⟩
    have BW5 := Lib.hid (BW4.out.trans (hb5.mono BW4.out.size))
    clear hb5
    go_wp2_with fail
    refine (HL.out _ (HM.out _ BW5.out) (HT.out _ BW5.out)).mono ?_
    rintro e w6 ⟨rfl, hb6⟩
    have BW6 := Lib.hid (BW5.out.trans (hb6.mono BW5.out.size))
    clear hb6
    go_wp2
    go_ret
    exact ⟨rfl, BW6.out⟩
  | some x =>
    have hxl := utfS_len hR
    have e3 := units_utf hR
    have HG := Lib.hid (fun W => utf_some d x hR (by omega) W)
    have HX := Lib.hid (fun W => units_lit x d e3 (by omega) W)
    clear hR e1 e2 e3 hul hel hrl hU hT2 hsl h6 hxl
    go_enter Tryz.func6, Tryz.ntmps6
    go_wp2_with fail
    refine (HU.out _).mono ?_
    rintro e w1 ⟨rfl, hb1⟩
    have BW1 := Lib.hid hb1
    clear hb1
    go_wp2_with fail
    refine (HF.out _).mono ?_
    rintro e w2 ⟨rfl, hb2⟩
    have BW2 := Lib.hid (BW1.out.trans (hb2.mono BW1.out.size))
    clear hb2
    go_wp2_with fail
    refine (HG.out _).mono ?_
    rintro e w3 ⟨rfl, hb3⟩
    have BW3 := Lib.hid (BW2.out.trans (hb3.mono BW2.out.size))
    clear hb3
    go_wp2_with fail
    refine (HV.out _).mono ?_
    rintro e w4 ⟨rfl, hb4⟩
    have BW4 := Lib.hid (BW3.out.trans (hb4.mono BW3.out.size))
    clear hb4
    go_wp2_with fail
    refine (HU.out _).mono ?_
    rintro e w5 ⟨rfl, hb5⟩
    have BW5 := Lib.hid (BW4.out.trans (hb5.mono BW4.out.size))
    clear hb5
    go_wp2_with fail
    refine (HX.out _).mono ?_
    rintro e w6 ⟨rfl, hb6⟩
    have BW6 := Lib.hid (BW5.out.trans (hb6.mono BW5.out.size))
    clear hb6
    go_wp2_with fail
    refine (HL.out _ (HM.out _ BW6.out) (HT.out _ BW6.out)).mono ?_
    rintro e w7 ⟨rfl, hb7⟩
    have BW7 := Lib.hid (BW6.out.trans (hb7.mono BW6.out.size))
    clear hb7
    go_wp2
    go_ret
    exact ⟨rfl, BW7.out⟩
end Go.Proofs.YtibffdaljmmdoaaGreatDoor
