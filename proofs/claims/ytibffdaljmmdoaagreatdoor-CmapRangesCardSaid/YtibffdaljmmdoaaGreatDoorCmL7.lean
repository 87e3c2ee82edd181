/- The walk of the statement on a row of a range. -/
import Derived.Test.YtibffdaljmmdoaaGreatDoorCmL6
import Derived.Test.YtibffdaljmmdoaaGreatDoorGRefC
import Derived.Test.YtibffdaljmmdoaaGreatDoorGCm
set_option linter.all false
namespace Go.Proofs.YtibffdaljmmdoaaGreatDoor
open Go.RowKit Fo Go.Maps

theorem rhex_lit (l x : L) (h : hexL l = x) (hl : l.length ≤ 1000000) (w : World) :
    Calls Tryz.prog 23 #[.string ⟨l.toArray⟩] w fun e w' => e = .returned (.string ⟨x.toArray⟩) ∧ Below w.heap.size w w' := by
  have := rhex_in ⟨l.toArray⟩ (by show l.length ≤ _; omega) w
  simp only [List.toList_toArray, h] at this
  exact this
theorem app_is {x y z : L} (h : x ++ y = z) : (⟨x.toArray⟩ : ByteArray) ++ ⟨y.toArray⟩ = ⟨z.toArray⟩ := by rw [← h]; simp [ByteArray.mk_append_mk]
theorem single_len (rs : List Nat) (hr : rs.length ≤ 100) (c u : Nat) : (singleL c (tx rs u)).length ≤ 1000 := by
  have h := tx_len rs u
  simp only [singleL, List.length_cons, List.length_append, shown_len, List.length_nil]
  have h1 : (begW 1).length = 11 := by decide
  have h2 : (endW 1).length = 9 := by decide
  omega
theorem singles_len (rs : List Nat) (hr : rs.length ≤ 100) (last c k : Nat) : ∀ n, (singlesL rs last c k n).length ≤ 1000 * n := by
  intro n
  induction n generalizing k with
  | zero => simp [singlesL]
  | succ n ih =>
    have h := single_len rs hr (c + k) (last + k)
    have h2 := ih (k + 1)
    rw [singles_head, List.length_append]
    omega
theorem singles_snoc (rs : List Nat) (last c k : Nat) : singlesL rs last c 0 (k + 1) = singlesL rs last c 0 k ++ singleL (c + k) (tx rs (last + k)) := by
  unfold singlesL
  rw [List.range'_concat, List.flatMap_append]
  simp
set_option maxRecDepth 100000 in
set_option maxHeartbeats 2000000 in
theorem cmranges_in (f mn z : Nat) (hf : f < 256) (hmn : mn < 256) (hz : z < 65536) (s : ByteArray) (hs : s.size ≤ 140737488355327) (m : Int) (w : World) (hm : MaxW w m) (hT : TabsW w) :
    Calls Tryz.prog 7 #[.int .u8 f, .int .u8 mn, .string s, .int .u16 z] w fun e w' => e = .returned (.bool true) ∧ Below w.heap.size w w' := by
  have HL := Lib.hid (fun W hm hT => lives_in m W hm hT)
  have HM := Lib.hid (fun W (hW : Below w.heap.size w W) => hm.below hW)
  have HT := Lib.hid (fun W (hW : Below w.heap.size w W) => hT.below hW)
  obtain ⟨n, hn⟩ : ∃ n, mn % 60 = n := ⟨_, rfl⟩
  have hq : (mn : Int) % 60 = (n : Int) := by omega
  have hn60 : n < 60 := by omega
  clear hn
  by_cases g1 : 255 < f + n
  · have d1 : decide ((255 : Int) < (f : Int) + n) = true := by simp; omega
    clear g1
    go_enter Tryz.func7, Tryz.ntmps7
    go_wp2_with fail
    refine (HL.out _ hm hT).mono ?_
    rintro e w1 ⟨rfl, hb1⟩
    go_wp2
    go_ret
    exact ⟨rfl, hb1⟩
  have d1 : decide ((255 : Int) < (f : Int) + n) = false := by simp; omega
  by_cases g2 : 100 < s.size
  · have d2 : decide ((100 : Int) < (s.size : Int)) = true := by simp; omega
    clear g1 g2
    go_enter Tryz.func7, Tryz.ntmps7
    go_wp2_with fail
    refine (HL.out _ hm hT).mono ?_
    rintro e w1 ⟨rfl, hb1⟩
    go_wp2
    go_ret
    exact ⟨rfl, hb1⟩
  have d2 : decide ((100 : Int) < (s.size : Int)) = false := by simp; omega
  by_cases g3 : 50000 ≤ z
  · have d3 : decide ((50000 : Int) ≤ (z : Int)) = true := by simp; omega
    clear g1 g2 g3
    go_enter Tryz.func7, Tryz.ntmps7
    go_wp2_with fail
    refine (HL.out _ hm hT).mono ?_
    rintro e w1 ⟨rfl, hb1⟩
    go_wp2
    go_ret
    exact ⟨rfl, hb1⟩
  have d3 : decide ((50000 : Int) ≤ (z : Int)) = false := by simp; omega
  have hz5 : z < 50000 := by omega
  have hsl : s.data.toList.length = s.size := by simp
  obtain ⟨l, hl⟩ : ∃ l, s.data.toList = l := ⟨_, rfl⟩
  have hU := fun W => rUnits_in s (by omega) W
  rw [hl] at hU hsl
  obtain ⟨rs, hrs⟩ : ∃ rs, runesS l = rs := ⟨_, rfl⟩
  have hsc := runesS_scalar l
  have hrl : (runesS l).length ≤ l.length := runesF_len _ l
  have hUR : unitsS l = unitsR rs := by unfold unitsS; rw [hrs]
  rw [hrs] at hsc hrl
  rw [hUR] at hU
  have hr100 : rs.length ≤ 100 := by omega
  have hul : (unitsR rs).length ≤ 400 := by have := unitsR_len rs; omega
  have HRW := Lib.hid (readC_row rs hsc (by omega) z f n (by omega) (by omega))
  have HSG := Lib.hid (readC_singles rs hsc (by omega) z f n (by omega) (by omega))
  have HSL := Lib.hid (fun k => singles_len rs hr100 z f 0 k)
  have HTL := Lib.hid (fun u => tx_len rs u)
  have HEL := Lib.hid (show (entries rs z f 0 (n + 1)).length = n + 1 by simp [entries])
  obtain ⟨ur, hur⟩ : ∃ u, unitsR rs = u := ⟨_, rfl⟩
  have HTX := Lib.hid (show ∀ u, tx rs u = ur ++ unitB u from fun u => by rw [← hur]; rfl)
  rw [hur] at hU hul
  have HU := Lib.hid hU
  clear hU hur hrs hsc hrl hUR hl hsl g2 g3
  go_enter Tryz.func7, Tryz.ntmps7
  go_wp2_with fail
  refine (HU.out _).mono ?_
  rintro e w1 ⟨rfl, hb1⟩
  have BW1 := Lib.hid hb1
  clear hb1
  go_wp2
  go_loopw [11, 12, 13] (fun r sg i wr => ∃ k : Nat, k ≤ n + 1 ∧ i = .int .i64 k ∧ r = .string ⟨(if k = 0 then [] else rowText rs z f n).toArray⟩ ∧ sg = .string ⟨(singlesL rs z f 0 k).toArray⟩ ∧ Below w.heap.size w wr) (fun _ _ i _ => n + 1 - (intOf i).toNat)
  case atStart => exact ⟨0, Nat.zero_le _, rfl, rfl, rfl, BW1.out⟩
  case round =>
    obtain ⟨k, hk, rfl, rfl, rfl, hbr⟩ := hrel
    by_cases hlk : k ≤ n
    · skip
      have hk6 : k < 60 := by omega
      have i1 : (f : Int) + (k : Int) ≤ 255 := by omega
      have i2 : (k : Int) < 256 := by omega
      have i3 : (z : Int) + (k : Int) < 65536 := by omega
      have i4 : ((z : Int) + k) / 256 < 256 := by omega
      have i5 : ((z : Int) + k) % 256 < 256 := by omega
      have i6 : (0 : Int) ≤ ((z : Int) + k) / 256 := by omega
      have i7 : (0 : Int) ≤ ((z : Int) + k) % 256 := by omega
      have i8 : decide ((k : Int) ≤ (n : Int)) = true := by simp; omega
      obtain ⟨b1, hb1⟩ : ∃ b, UInt8.ofNat (f + k) = b := ⟨_, rfl⟩
      have hcv1 := fun W => conv1 W ((f : Int) + k) b1 (by rw [← hb1]; simp; omega) 1
      obtain ⟨c1, hc1⟩ : ∃ b, UInt8.ofNat ((z + k) / 256) = b := ⟨_, rfl⟩
      obtain ⟨c2, hc2⟩ : ∃ b, UInt8.ofNat (z + k) = b := ⟨_, rfl⟩
      have hcv2 := fun W => conv2 W (((z : Int) + k) / 256) (((z : Int) + k) % 256) c1 c2 (by rw [← hc1]; simp; omega) (by rw [← hc2]; simp) 2
      have hT0 := HTX.out (z + k)
      have hTl := HTL.out (z + k)
      obtain ⟨T, hTe⟩ : ∃ T, tx rs (z + k) = T := ⟨_, rfl⟩
      rw [hTe] at hT0 hTl
      have hT1 : ur ++ [c1, c2] = T := by rw [hT0]; unfold unitB; rw [hc1, hc2]
      have ET := app_is hT1
      have hh1 : (hexL [b1]).length = 2 := by rw [hexL_len]; rfl
      have hh2 : (hexL T).length ≤ 1000 := by rw [hexL_len]; omega
      obtain ⟨h1, hh1e⟩ : ∃ h, hexL [b1] = h := ⟨_, rfl⟩
      obtain ⟨h2, hh2e⟩ : ∃ h, hexL T = h := ⟨_, rfl⟩
      have HH1 := Lib.hid (fun W => rhex_lit [b1] h1 hh1e (by simp) W)
      have HH2 := Lib.hid (fun W => rhex_lit T h2 hh2e (by omega) W)
      rw [hh1e] at hh1
      rw [hh2e] at hh2
      have hSl := HSL.out k
      have hsn : singlesL rs z f 0 (k + 1) = singlesL rs z f 0 k ++ (32 :: (begW 1 ++ 32 :: (shownL [b1] ++ (shownL T ++ 32 :: endW 1)))) := by
        rw [singles_snoc, singleL, hb1, hTe]
      unfold shownL at hsn
      rw [hh1e, hh2e] at hsn
      obtain ⟨S, hS⟩ : ∃ S, singlesL rs z f 0 k = S := ⟨_, rfl⟩
      rw [hS] at hSl hsn
      rw [hS]
      obtain ⟨Q1, q1⟩ : ∃ z, S ++ [32, 98, 101, 103, 105, 110, 98, 102, 99, 104, 97, 114, 32, 60] = z := ⟨_, rfl⟩
      have Eq1 := app_is q1
      have Nq1 := Lib.hid q1
      obtain ⟨Q2, q2⟩ : ∃ z, Q1 ++ h1 = z := ⟨_, rfl⟩
      have Eq2 := app_is q2
      have Nq2 := Lib.hid q2
      obtain ⟨Q3, q3⟩ : ∃ z, Q2 ++ [62, 60] = z := ⟨_, rfl⟩
      have Eq3 := app_is q3
      have Nq3 := Lib.hid q3
      obtain ⟨Q4, q4⟩ : ∃ z, Q3 ++ h2 = z := ⟨_, rfl⟩
      have Eq4 := app_is q4
      have Nq4 := Lib.hid q4
      obtain ⟨Q5, q5⟩ : ∃ z, Q4 ++ [62, 32, 101, 110, 100, 98, 102, 99, 104, 97, 114] = z := ⟨_, rfl⟩
      have Eq5 := app_is q5
      have Nq5 := Lib.hid q5
      have hQ5 : singlesL rs z f 0 (k + 1) = Q5 := by
        rw [hsn, ← q5, ← q4, ← q3, ← q2, ← q1]; simp [begW, endW, beginN, endN, partN]
      have L0 : S.length ≤ 60000 := by omega
      have l1 : Q1.length = S.length + 14 := by rw [← q1]; simp
      have l2 : Q2.length = S.length + 16 := by rw [← q2]; simp; omega
      have l3 : Q3.length = S.length + 18 := by rw [← q3]; simp; omega
      have l4 : Q4.length ≤ S.length + 1018 := by rw [← q4]; simp; omega
      have m1 : S.length + 14 ≤ 9223372036854775807 := by omega
      have m2 : Q1.length + h1.length ≤ 9223372036854775807 := by omega
      have m3 : Q2.length + 2 ≤ 9223372036854775807 := by omega
      have m4 : Q3.length + h2.length ≤ 9223372036854775807 := by omega
      have m5 : Q4.length + 11 ≤ 9223372036854775807 := by omega
      have m6 : ur.length + 2 ≤ 9223372036854775807 := by omega
      have HQ5 := Lib.hid hQ5
      have HB1 := Lib.hid hb1
      have HTE := Lib.hid hTe
      have HN1 := Lib.hid hh1e
      have HN2 := Lib.hid hh2e
      by_cases hk0 : k = 0
      · rw [if_pos hk0]
        have k0 : ((k : Int) == 0) = true := by simp; omega
        have i9 : (f : Int) + (n : Int) ≤ 255 := by omega
        have i10 : (n : Int) < 256 := by omega
        obtain ⟨b3, hb3⟩ : ∃ b, UInt8.ofNat (f + n) = b := ⟨_, rfl⟩
        have hcv3 := fun W => conv1 W ((f : Int) + n) b3 (by rw [← hb3]; simp; omega) 1
        have hh3 : (hexL [b3]).length = 2 := by rw [hexL_len]; rfl
        obtain ⟨h3, hh3e⟩ : ∃ h, hexL [b3] = h := ⟨_, rfl⟩
        have HH3 := Lib.hid (fun W => rhex_lit [b3] h3 hh3e (by simp) W)
        rw [hh3e] at hh3
        obtain ⟨P1, p1⟩ : ∃ z, [98, 101, 103, 105, 110, 98, 102, 114, 97, 110, 103, 101, 32, 60] ++ h1 = z := ⟨_, rfl⟩
        have Ep1 := app_is p1
        have Np1 := Lib.hid p1
        obtain ⟨P2, p2⟩ : ∃ z, P1 ++ [62, 60] = z := ⟨_, rfl⟩
        have Ep2 := app_is p2
        have Np2 := Lib.hid p2
        obtain ⟨P3, p3⟩ : ∃ z, P2 ++ h3 = z := ⟨_, rfl⟩
        have Ep3 := app_is p3
        have Np3 := Lib.hid p3
        obtain ⟨P4, p4⟩ : ∃ z, P3 ++ [62, 60] = z := ⟨_, rfl⟩
        have Ep4 := app_is p4
        have Np4 := Lib.hid p4
        obtain ⟨P5, p5⟩ : ∃ z, P4 ++ h2 = z := ⟨_, rfl⟩
        have Ep5 := app_is p5
        have Np5 := Lib.hid p5
        obtain ⟨P6, p6⟩ : ∃ z, P5 ++ [62, 32, 101, 110, 100, 98, 102, 114, 97, 110, 103, 101] = z := ⟨_, rfl⟩
        have Ep6 := app_is p6
        have Np6 := Lib.hid p6
        have hP6 : rowText rs z f n = P6 := by
          have e1 : UInt8.ofNat f = b1 := by rw [← hb1, hk0]; rfl
          have e2 : tx rs z = T := by rw [← hTe, hk0]; rfl
          unfold rowText shownL
          rw [hb3, e1, e2, hh1e, hh2e, hh3e, ← p6, ← p5, ← p4, ← p3, ← p2, ← p1]
          simp [begW, endW, beginN, endN, partN]
        have l5 : P1.length = 16 := by rw [← p1]; simp; omega
        have l6 : P2.length = 18 := by rw [← p2]; simp; omega
        have l7 : P3.length = 20 := by rw [← p3]; simp; omega
        have l8 : P4.length = 22 := by rw [← p4]; simp; omega
        have l9 : P5.length ≤ 1022 := by rw [← p5]; simp; omega
        have n1 : 14 + h1.length ≤ 9223372036854775807 := by omega
        have n2 : P1.length + 2 ≤ 9223372036854775807 := by omega
        have n3 : P2.length + h3.length ≤ 9223372036854775807 := by omega
        have n4 : P3.length + 2 ≤ 9223372036854775807 := by omega
        have n5 : P4.length + h2.length ≤ 9223372036854775807 := by omega
        have n6 : P5.length + 12 ≤ 9223372036854775807 := by omega
        have HP6 := Lib.hid (show rowText rs z f n = (if k + 1 = 0 then [] else rowText rs z f n) ∧ rowText rs z f n = P6 from ⟨by rw [if_neg (by omega)], hP6⟩)
        clear hb3 hh3e p1 p2 p3 p4 p5 p6 hP6 l5 l6 l7 l8 l9 hk0
        clear hb1 hc1 hc2 hT0 hTe hT1 hh1e hh2e hsn hS q1 q2 q3 q4 q5 hQ5 l1 l2 l3 l4 hTl hSl hh1 hh2 hh3 L0
        have BR := Lib.hid hbr
        go_wp2_with fail
        refine (HH1.out _).mono ?_
        rintro e w2 ⟨rfl, hb2⟩
        have BW2 := Lib.hid (BR.out.trans (((Below.refl wr.heap.size wr).alloc (Nat.le_refl _) (.cells #[.int .u8 ((f : Int) + k)] 5)).trans (hb2.mono (by simp)) |>.mono BR.out.size))
        clear hb2
        go_wp2_with fail
        refine (HH2.out _).mono ?_
        rintro e w3 ⟨rfl, hb3⟩
        have BW3 := Lib.hid (BW2.out.trans (((Below.refl w2.heap.size w2).alloc (Nat.le_refl _) (.cells #[.int .u8 (((z : Int) + k) / 256), .int .u8 (((z : Int) + k) % 256)] 5)).trans (hb3.mono (by simp)) |>.mono BW2.out.size))
        clear hb3
        go_wp2_with fail
        refine (HH3.out _).mono ?_
        rintro e w4 ⟨rfl, hb4⟩
        have BW4 := Lib.hid (BW3.out.trans (((Below.refl w3.heap.size w3).alloc (Nat.le_refl _) (.cells #[.int .u8 ((f : Int) + n)] 5)).trans (hb4.mono (by simp)) |>.mono BW3.out.size))
        clear hb4
        go_wp2
        go_roundw
        case rel => exact ⟨k + 1, by omega, by go_num, by rw [if_neg (by omega), HP6.out.2], by rw [HQ5.out], BW4.out⟩
        case measure => simp [intOf]; omega
      · rw [if_neg hk0]
        have k0 : ((k : Int) == 0) = false := by simp; omega
        obtain ⟨P6, hP6⟩ : ∃ P, rowText rs z f n = P := ⟨_, rfl⟩
        rw [hP6]
        have HP6 := Lib.hid (show rowText rs z f n = (if k + 1 = 0 then [] else rowText rs z f n) ∧ rowText rs z f n = P6 from ⟨by rw [if_neg (by omega)], hP6⟩)
        clear hP6 hk0
        clear hb1 hc1 hc2 hT0 hTe hT1 hh1e hh2e hsn hS q1 q2 q3 q4 q5 hQ5 l1 l2 l3 l4 hTl hSl hh1 hh2 L0
        have BR := Lib.hid hbr
        go_wp2_with fail
        refine (HH1.out _).mono ?_
        rintro e w2 ⟨rfl, hb2⟩
        have BW2 := Lib.hid (BR.out.trans (((Below.refl wr.heap.size wr).alloc (Nat.le_refl _) (.cells #[.int .u8 ((f : Int) + k)] 5)).trans (hb2.mono (by simp)) |>.mono BR.out.size))
        clear hb2
        go_wp2_with fail
        refine (HH2.out _).mono ?_
        rintro e w3 ⟨rfl, hb3⟩
        have BW3 := Lib.hid (BW2.out.trans (((Below.refl w2.heap.size w2).alloc (Nat.le_refl _) (.cells #[.int .u8 (((z : Int) + k) / 256), .int .u8 (((z : Int) + k) % 256)] 5)).trans (hb3.mono (by simp)) |>.mono BW2.out.size))
        clear hb3
        go_wp2
        go_roundw
        case rel => exact ⟨k + 1, by omega, by go_num, by rw [if_neg (by omega)], by rw [HQ5.out], BW3.out⟩
        case measure => simp [intOf]; omega
    · obtain rfl : k = n + 1 := by omega
      have i8 : decide (((n + 1 : Nat) : Int) ≤ (n : Int)) = false := by simp; omega
      have i9 : decide ((n : Int) + 1 ≤ (n : Int)) = false := by simp; omega
      rw [if_neg (by omega)]
      obtain ⟨M, hM⟩ : ∃ M, entries rs z f 0 (n + 1) = M := ⟨_, rfl⟩
      rw [hM] at HRW HSG HEL
      have hl1 := HEL.out
      have hRl : (rowText rs z f n).length ≤ 1000000 := by
        have := HTL.out z
        have e1 : (begW 2).length = 12 := by decide
        have e2 : (endW 2).length = 10 := by decide
        simp only [rowText, List.length_append, List.length_cons, shown_len, List.length_nil]
        omega
      have hSl2 : (singlesL rs z f 0 (n + 1)).length ≤ 1000000 := by have := HSL.out (n + 1); omega
      have HR1 := Lib.hid (fun W hW => mread_good _ _ _ HRW.out hRl m W hW)
      have HR2 := Lib.hid (fun W hW => mread_good _ _ _ HSG.out hSl2 m W hW)
      obtain ⟨R1, hR1⟩ : ∃ x, rowText rs z f n = x := ⟨_, rfl⟩
      obtain ⟨R2, hR2⟩ : ∃ x, singlesL rs z f 0 (n + 1) = x := ⟨_, rfl⟩
      rw [hR1] at HR1
      rw [hR2] at HR2
      rw [hR1, hR2]
      have BR := Lib.hid hbr
      rw [hl1] at HR1 HR2
      clear hR1 hR2 hRl hSl2 hM HRW HSG hk hlk
      go_wp2_with fail
      refine (HR1.out _ (HM.out _ BR.out)).mono ?_
      rintro e w2 ⟨v2, rfl, _, M2, hb2⟩
      obtain ⟨p2, c2, rfl⟩ := mown_slice M2
      have A2 := Lib.hid M2.arg
      have BW2 := Lib.hid (BR.out.trans (hb2.mono BR.out.size))
      clear M2 hb2
      go_wp2_with fail
      refine (HR2.out _ (HM.out _ BW2.out)).mono ?_
      rintro e w3 ⟨v3, rfl, _, M3, hb3⟩
      obtain ⟨p3, c3, rfl⟩ := mown_slice M3
      have A3 := Lib.hid M3.arg
      have A2b := Lib.hid (A2.out.below hb3)
      have BW3 := Lib.hid (BW2.out.trans (hb3.mono BW2.out.size))
      clear M3 hb3
      have HSM := Lib.hid (rsame_refl _ _ M w3 A2b.out A3.out (by omega))
      have j1 : ((n + 1 : Nat) : Int) = (n : Int) + 1 := by omega
      rw [hl1] at HSM ⊢
      go_wp2_with fail
      refine HSM.out.mono ?_
      rintro e w4 ⟨rfl, hb4⟩
      have BW4 := Lib.hid (BW3.out.trans (hb4.mono BW3.out.size))
      clear hb4
      go_wp2_with fail
      refine (HL.out _ (HM.out _ BW4.out) (HT.out _ BW4.out)).mono ?_
      rintro e w5 ⟨rfl, hb5⟩
      have BW5 := Lib.hid (BW4.out.trans (hb5.mono BW4.out.size))
      clear hb5
      go_wp2
      go_ret
      exact ⟨rfl, BW5.out⟩
end Go.Proofs.YtibffdaljmmdoaaGreatDoor
