/- The walk of the statement on depth. -/
import Derived.Test.YtpadlepdgnlgnaaGreatDoorDeepL
set_option linter.all false
namespace Go.Proofs.YtpadlepdgnlgnaaGreatDoor
open Go.RowKit Fo

set_option maxRecDepth 100000 in
set_option maxHeartbeats 1000000 in
theorem deep_in (n bits : Int) (hb0 : 0 ≤ bits) (hb1 : bits < 4294967296) (m : Int) (w : World) (hm : MaxW w m) :
    Calls Tryz.prog 7 #[.int .i64 n, .int .u32 bits] w fun e w' => e = .returned (.bool true) ∧ Below w.heap.size w w' := by
  have HL := Lib.hid (fun W hm => lives_in m W hm)
  by_cases h0 : n < 0
  · go_enter Tryz.func7, Tryz.ntmps7
    go_wp2_with fail
    refine (HL.out _ (hm.below (by repeat' (first | (with_reducible exact Below.refl _ _) | (with_reducible refine Below.drew ?_) | (with_reducible refine belowDrewN ?_ _) | (with_reducible refine belowIter ?_ ?_ _ _) | (with_reducible refine Below.setCell ?_ ?_ _) | (with_reducible refine Below.alloc ?_ ?_ _) | (with_reducible refine Below.trans ?_ (Below.mono hb4 ?_)) | (with_reducible refine Below.trans ?_ (Below.mono hb3 ?_)) | (with_reducible refine Below.trans ?_ (Below.mono hb2 ?_)) | (with_reducible refine Below.trans ?_ (Below.mono hb1 ?_)) | (with_reducible refine Below.trans ?_ (Below.mono hbr ?_)) | (with_reducible refine Below.trans ?_ (Below.mono hb ?_)) | (simp; done) | (simp; omega) | omega)))).mono ?_
    rintro e w1 ⟨rfl, hb1⟩
    go_wp2
    go_ret
    exact ⟨rfl, (by repeat' (first | (with_reducible exact Below.refl _ _) | (with_reducible refine Below.drew ?_) | (with_reducible refine belowDrewN ?_ _) | (with_reducible refine belowIter ?_ ?_ _ _) | (with_reducible refine Below.setCell ?_ ?_ _) | (with_reducible refine Below.alloc ?_ ?_ _) | (with_reducible refine Below.trans ?_ (Below.mono hb4 ?_)) | (with_reducible refine Below.trans ?_ (Below.mono hb3 ?_)) | (with_reducible refine Below.trans ?_ (Below.mono hb2 ?_)) | (with_reducible refine Below.trans ?_ (Below.mono hb1 ?_)) | (with_reducible refine Below.trans ?_ (Below.mono hbr ?_)) | (with_reducible refine Below.trans ?_ (Below.mono hb ?_)) | (simp; done) | (simp; omega) | omega))⟩
  by_cases h40 : 40 < n
  · go_enter Tryz.func7, Tryz.ntmps7
    go_wp2_with fail
    refine (HL.out _ (hm.below (by repeat' (first | (with_reducible exact Below.refl _ _) | (with_reducible refine Below.drew ?_) | (with_reducible refine belowDrewN ?_ _) | (with_reducible refine belowIter ?_ ?_ _ _) | (with_reducible refine Below.setCell ?_ ?_ _) | (with_reducible refine Below.alloc ?_ ?_ _) | (with_reducible refine Below.trans ?_ (Below.mono hb4 ?_)) | (with_reducible refine Below.trans ?_ (Below.mono hb3 ?_)) | (with_reducible refine Below.trans ?_ (Below.mono hb2 ?_)) | (with_reducible refine Below.trans ?_ (Below.mono hb1 ?_)) | (with_reducible refine Below.trans ?_ (Below.mono hbr ?_)) | (with_reducible refine Below.trans ?_ (Below.mono hb ?_)) | (simp; done) | (simp; omega) | omega)))).mono ?_
    rintro e w1 ⟨rfl, hb1⟩
    go_wp2
    go_ret
    exact ⟨rfl, (by repeat' (first | (with_reducible exact Below.refl _ _) | (with_reducible refine Below.drew ?_) | (with_reducible refine belowDrewN ?_ _) | (with_reducible refine belowIter ?_ ?_ _ _) | (with_reducible refine Below.setCell ?_ ?_ _) | (with_reducible refine Below.alloc ?_ ?_ _) | (with_reducible refine Below.trans ?_ (Below.mono hb4 ?_)) | (with_reducible refine Below.trans ?_ (Below.mono hb3 ?_)) | (with_reducible refine Below.trans ?_ (Below.mono hb2 ?_)) | (with_reducible refine Below.trans ?_ (Below.mono hb1 ?_)) | (with_reducible refine Below.trans ?_ (Below.mono hbr ?_)) | (with_reducible refine Below.trans ?_ (Below.mono hb ?_)) | (simp; done) | (simp; omega) | omega))⟩
  obtain ⟨N, rfl⟩ : ∃ N : Nat, n = N := ⟨n.toNat, by omega⟩
  have hN : N ≤ 40 := by omega
  have d0 : decide ((N : Int) < 0) = false := by simp
  have d1 : decide ((40 : Int) < (N : Int)) = false := by simp; omega
  clear h0 h40
  go_enter Tryz.func7, Tryz.ntmps7
  go_wp2
  go_loop [5, 6, 7] (fun h t i => ∃ bs : List Bool, bs.length ≤ N ∧ i = .int .i64 bs.length ∧ h = .string ⟨(hdL bs).toArray⟩ ∧ t = .string ⟨(tlL bs).toArray⟩) (fun _ _ i => N - (intOf i).toNat)
  case atStart => exact ⟨[], Nat.zero_le _, rfl, rfl, rfl⟩
  case round =>
    obtain ⟨bs, hbs, rfl, rfl, rfl⟩ := hrel
    have hl1 := hdL_len bs
    have hl2 := tlL_len bs
    by_cases hlt : bs.length < N
    · have z1 : decide (9223372036854775807 < (hdL bs).length + 1) = false := by simp; omega
      have z2 : decide (9223372036854775807 < (hdL bs).length + 4) = false := by simp; omega
      have z3 : decide (9223372036854775807 < 1 + (tlL bs).length) = false := by simp; omega
      have z4 : decide (9223372036854775807 < 2 + (tlL bs).length) = false := by simp; omega
      have y1 : (hdL bs).length + 4 ≤ 9223372036854775807 := by omega
      have y2 : (hdL bs).length + 1 ≤ 9223372036854775807 := by omega
      have y3 : 1 + (tlL bs).length ≤ 9223372036854775807 := by omega
      have y4 : 2 + (tlL bs).length ≤ 9223372036854775807 := by omega
      clear hl1 hl2
      cases ht : (Go.bits BinOp.and IntKind.u32 (bits / 2 ^ (bs.length % 32)) 1 == 1)
      · go_wp2
        go_round
        case rel => exact ⟨bs ++ [false], by simp; omega, by simp, hd_false bs, tl_false bs⟩
        case measure => simp [intOf]; omega
      · go_wp2
        go_round
        case rel => exact ⟨bs ++ [true], by simp; omega, by simp, hd_true bs, tl_true bs⟩
        case measure => simp [intOf]; omega
    · have hbN : bs.length = N := by omega
      have y2 : (hdL bs).length + 3 ≤ 9223372036854775807 := by omega
      have y3 : (hdL bs).length + 3 + (tlL bs).length ≤ 9223372036854775807 := by omega
      have z1 : decide (9223372036854775807 < (hdL bs).length + 3) = false := by simp; omega
      have z2 : decide (9223372036854775807 < (hdL bs).length + 3 + (tlL bs).length) = false := by simp; omega
      clear hl1 hl2
      by_cases h24 : N < 24
      · have HW := Lib.hid (fun W hm => whole_deep bs (.good (nestO bs)) (if_pos (by omega)) (by omega) m W hm)
        have HD := Lib.hid (show depthL 25 (nestO bs) = N + 1 by rw [depth_nest bs 25 (by omega), hbN])
        have HS := Lib.hid (deep_small bs (by omega))
        obtain ⟨o, ho⟩ : ∃ o, nestO bs = o := ⟨_, rfl⟩
        rw [ho] at HW HD HS
        have d2 : decide ((24 : Int) ≤ (N : Int)) = false := by simp; omega
        clear ho hbN
        go_wp2_with fail
        refine (HW.out _ (hm.below (by repeat' (first | (with_reducible exact Below.refl _ _) | (with_reducible refine Below.drew ?_) | (with_reducible refine belowDrewN ?_ _) | (with_reducible refine belowIter ?_ ?_ _ _) | (with_reducible refine Below.setCell ?_ ?_ _) | (with_reducible refine Below.alloc ?_ ?_ _) | (with_reducible refine Below.trans ?_ (Below.mono hb4 ?_)) | (with_reducible refine Below.trans ?_ (Below.mono hb3 ?_)) | (with_reducible refine Below.trans ?_ (Below.mono hb2 ?_)) | (with_reducible refine Below.trans ?_ (Below.mono hb1 ?_)) | (with_reducible refine Below.trans ?_ (Below.mono hbr ?_)) | (with_reducible refine Below.trans ?_ (Below.mono hb ?_)) | (simp; done) | (simp; omega) | omega)))).mono ?_
        rintro e w1 ⟨p1, n1, c1, p2, n2, c2, rfl, O1, hb1⟩
        have m1 := hm.below hb1
        have hz1 := hb1.size
        have HC := Lib.hid (fun W (hW : Below w1.heap.size w1 W) => depth_in (fun b => b < w1.heap.size) 25 (by omega) W _ o (ObjAt.grow (S' := fun b => b < w1.heap.size) O1 (fun b h1 h2 => ⟨h2, hW.block b h2⟩)) HS.out (fun b h => Nat.lt_of_lt_of_le h hW.size))
        rw [HD.out] at HC
        unfold objCells at HC
        clear O1
        go_wp2_with fail
        refine (HC.out _ (by repeat' (first | (with_reducible exact Below.refl _ _) | (with_reducible refine Below.drew ?_) | (with_reducible refine belowDrewN ?_ _) | (with_reducible refine belowIter ?_ ?_ _ _) | (with_reducible refine Below.setCell ?_ ?_ _) | (with_reducible refine Below.alloc ?_ ?_ _) | (with_reducible refine Below.trans ?_ (Below.mono hb4 ?_)) | (with_reducible refine Below.trans ?_ (Below.mono hb3 ?_)) | (with_reducible refine Below.trans ?_ (Below.mono hb2 ?_)) | (with_reducible refine Below.trans ?_ (Below.mono hb1 ?_)) | (with_reducible refine Below.trans ?_ (Below.mono hbr ?_)) | (with_reducible refine Below.trans ?_ (Below.mono hb ?_)) | (simp; done) | (simp; omega) | omega))).mono ?_
        rintro e w2 ⟨rfl, hb2⟩
        have m2 := maxStep m1 hb2
        have hz2 := sizeStep hb2
        go_wp2_with fail
        refine (HL.out _ (m2.below (by repeat' (first | (with_reducible exact Below.refl _ _) | (with_reducible refine Below.drew ?_) | (with_reducible refine belowDrewN ?_ _) | (with_reducible refine belowIter ?_ ?_ _ _) | (with_reducible refine Below.setCell ?_ ?_ _) | (with_reducible refine Below.alloc ?_ ?_ _) | (with_reducible refine Below.trans ?_ (Below.mono hb4 ?_)) | (with_reducible refine Below.trans ?_ (Below.mono hb3 ?_)) | (with_reducible refine Below.trans ?_ (Below.mono hb2 ?_)) | (with_reducible refine Below.trans ?_ (Below.mono hb1 ?_)) | (with_reducible refine Below.trans ?_ (Below.mono hbr ?_)) | (with_reducible refine Below.trans ?_ (Below.mono hb ?_)) | (simp; done) | (simp; omega) | omega)))).mono ?_
        rintro e w3 ⟨rfl, hb3⟩
        go_wp2
        go_ret
        exact ⟨rfl, (by repeat' (first | (with_reducible exact Below.refl _ _) | (with_reducible refine Below.drew ?_) | (with_reducible refine belowDrewN ?_ _) | (with_reducible refine belowIter ?_ ?_ _ _) | (with_reducible refine Below.setCell ?_ ?_ _) | (with_reducible refine Below.alloc ?_ ?_ _) | (with_reducible refine Below.trans ?_ (Below.mono hb4 ?_)) | (with_reducible refine Below.trans ?_ (Below.mono hb3 ?_)) | (with_reducible refine Below.trans ?_ (Below.mono hb2 ?_)) | (with_reducible refine Below.trans ?_ (Below.mono hb1 ?_)) | (with_reducible refine Below.trans ?_ (Below.mono hbr ?_)) | (with_reducible refine Below.trans ?_ (Below.mono hb ?_)) | (simp; done) | (simp; omega) | omega))⟩
      · have HW := Lib.hid (fun W hm => whole_deep bs (.bad 7) (if_neg (by omega)) (by omega) m W hm)
        have d2 : decide ((24 : Int) ≤ (N : Int)) = true := by simp; omega
        clear hbN
        go_wp2_with fail
        refine (HW.out _ (hm.below (by repeat' (first | (with_reducible exact Below.refl _ _) | (with_reducible refine Below.drew ?_) | (with_reducible refine belowDrewN ?_ _) | (with_reducible refine belowIter ?_ ?_ _ _) | (with_reducible refine Below.setCell ?_ ?_ _) | (with_reducible refine Below.alloc ?_ ?_ _) | (with_reducible refine Below.trans ?_ (Below.mono hb4 ?_)) | (with_reducible refine Below.trans ?_ (Below.mono hb3 ?_)) | (with_reducible refine Below.trans ?_ (Below.mono hb2 ?_)) | (with_reducible refine Below.trans ?_ (Below.mono hb1 ?_)) | (with_reducible refine Below.trans ?_ (Below.mono hbr ?_)) | (with_reducible refine Below.trans ?_ (Below.mono hb ?_)) | (simp; done) | (simp; omega) | omega)))).mono ?_
        rintro e w1 ⟨rfl, hb1⟩
        have m1 := hm.below hb1
        have hz1 := hb1.size
        go_wp2_with fail
        refine (HL.out _ (m1.below (by repeat' (first | (with_reducible exact Below.refl _ _) | (with_reducible refine Below.drew ?_) | (with_reducible refine belowDrewN ?_ _) | (with_reducible refine belowIter ?_ ?_ _ _) | (with_reducible refine Below.setCell ?_ ?_ _) | (with_reducible refine Below.alloc ?_ ?_ _) | (with_reducible refine Below.trans ?_ (Below.mono hb4 ?_)) | (with_reducible refine Below.trans ?_ (Below.mono hb3 ?_)) | (with_reducible refine Below.trans ?_ (Below.mono hb2 ?_)) | (with_reducible refine Below.trans ?_ (Below.mono hb1 ?_)) | (with_reducible refine Below.trans ?_ (Below.mono hbr ?_)) | (with_reducible refine Below.trans ?_ (Below.mono hb ?_)) | (simp; done) | (simp; omega) | omega)))).mono ?_
        rintro e w2 ⟨rfl, hb2⟩
        go_wp2
        go_ret
        exact ⟨rfl, (by repeat' (first | (with_reducible exact Below.refl _ _) | (with_reducible refine Below.drew ?_) | (with_reducible refine belowDrewN ?_ _) | (with_reducible refine belowIter ?_ ?_ _ _) | (with_reducible refine Below.setCell ?_ ?_ _) | (with_reducible refine Below.alloc ?_ ?_ _) | (with_reducible refine Below.trans ?_ (Below.mono hb4 ?_)) | (with_reducible refine Below.trans ?_ (Below.mono hb3 ?_)) | (with_reducible refine Below.trans ?_ (Below.mono hb2 ?_)) | (with_reducible refine Below.trans ?_ (Below.mono hb1 ?_)) | (with_reducible refine Below.trans ?_ (Below.mono hbr ?_)) | (with_reducible refine Below.trans ?_ (Below.mono hb ?_)) | (simp; done) | (simp; omega) | omega))⟩
end Go.Proofs.YtpadlepdgnlgnaaGreatDoor
