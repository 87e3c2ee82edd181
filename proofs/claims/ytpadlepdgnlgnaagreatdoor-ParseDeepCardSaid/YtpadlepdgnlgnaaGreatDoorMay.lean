/- The walk of the statement that a parsed object is valid. -/
import Derived.Test.YtpadlepdgnlgnaaGreatDoorLives
import Derived.Test.YtpadlepdgnlgnaaGreatDoorCheckC
set_option linter.all false
namespace Go.Proofs.YtpadlepdgnlgnaaGreatDoor
open Go.RowKit Fo

theorem smallO_succ : ∀ (d : Nat) (o : Ob), smallO d o → smallO (d + 1) o
  | 0, _, h => h.elim
  | d + 1, o, h => ⟨h.1, h.2.1, h.2.2.1, h.2.2.2.1, fun k hk => smallO_succ d k (h.2.2.2.2 k hk)⟩
theorem readS_small {l r : L} {o : Ob} (h : readS l = .good (o, r)) : smallO 25 o ∧ checkB 24 o = 0 ∧ o.kind ≠ 9 := by
  unfold readS at h
  split at h
  · cases h
  · rename_i t r1 h1
    have h2 := objS_ok _ _ _ _ _ (nextS_ok h1) h
    exact ⟨smallO_succ 24 o (okO_small 24 o h2), okO_check _ _ h2, h2.2.1⟩
theorem same_zero (w : World) : Calls Tryz.prog 15 #[.agg #[.int .i64 0, .int .i64 0, .int .i64 0, .string ⟨#[]⟩, .slice none 0 0, .slice none 0 0], .agg #[.int .i64 0, .int .i64 0, .int .i64 0, .string ⟨#[]⟩, .slice none 0 0, .slice none 0 0]] w fun e w' => e = .returned (.bool true) ∧ Below w.heap.size w w' :=
  same_in (fun _ => False) 1 w _ _ Ob.zero (obV_at _ 0 w 0 0 0 []) (obV_at _ 0 w 0 0 0 []) ⟨by simp [Ob.zero, Ob.keys], by simp [Ob.zero, Ob.kids], by simp [Ob.zero, Ob.s], by simp [Ob.zero, Ob.keys], by simp [Ob.zero, Ob.kids]⟩ (fun b h => h.elim)
set_option maxRecDepth 100000 in
set_option maxHeartbeats 1000000 in
theorem may_in (s : ByteArray) (hs : s.size ≤ 140737488355327) (m : Int) (w : World) (hm : MaxW w m) :
    Calls Tryz.prog 5 #[.string s] w fun e w' => e = .returned (.bool true) ∧ Below w.heap.size w w' := by
  by_cases h3 : 3000 < s.size
  · have HL := Lib.hid (fun W hm => lives_in m W hm)
    go_enter Tryz.func5, Tryz.ntmps5
    go_wp2_with fail
    refine (HL.out _ (hm.below (by repeat' (first | (with_reducible exact Below.refl _ _) | (with_reducible refine Below.drew ?_) | (with_reducible refine belowDrewN ?_ _) | (with_reducible refine belowIter ?_ ?_ _ _) | (with_reducible refine Below.setCell ?_ ?_ _) | (with_reducible refine Below.alloc ?_ ?_ _) | (with_reducible refine Below.trans ?_ (Below.mono hb4 ?_)) | (with_reducible refine Below.trans ?_ (Below.mono hb3 ?_)) | (with_reducible refine Below.trans ?_ (Below.mono hb2 ?_)) | (with_reducible refine Below.trans ?_ (Below.mono hb1 ?_)) | (with_reducible refine Below.trans ?_ (Below.mono hbr ?_)) | (with_reducible refine Below.trans ?_ (Below.mono hb ?_)) | (simp; done) | (simp; omega) | omega)))).mono ?_
    rintro e w1 ⟨rfl, hb1⟩
    go_wp2
    go_ret
    exact ⟨rfl, (by repeat' (first | (with_reducible exact Below.refl _ _) | (with_reducible refine Below.drew ?_) | (with_reducible refine belowDrewN ?_ _) | (with_reducible refine belowIter ?_ ?_ _ _) | (with_reducible refine Below.setCell ?_ ?_ _) | (with_reducible refine Below.alloc ?_ ?_ _) | (with_reducible refine Below.trans ?_ (Below.mono hb4 ?_)) | (with_reducible refine Below.trans ?_ (Below.mono hb3 ?_)) | (with_reducible refine Below.trans ?_ (Below.mono hb2 ?_)) | (with_reducible refine Below.trans ?_ (Below.mono hb1 ?_)) | (with_reducible refine Below.trans ?_ (Below.mono hbr ?_)) | (with_reducible refine Below.trans ?_ (Below.mono hb ?_)) | (simp; done) | (simp; omega) | omega))⟩
  have HL := Lib.hid (fun W hm => lives_in m W hm)
  have HOB := Lib.hid (fun W hm => Object_zero s hs m W hm)
  cases hR : readS s.data.toList with
  | bad k =>
    rw [hR] at HOB
    have hk00 := readS_codes hR
    have hk0 : (k != 0) = true := by simp; omega
    clear hR
    go_enter Tryz.func5, Tryz.ntmps5
    go_wp2_with fail
    refine (HOB.out _ (hm.below (by repeat' (first | (with_reducible exact Below.refl _ _) | (with_reducible refine Below.drew ?_) | (with_reducible refine belowDrewN ?_ _) | (with_reducible refine belowIter ?_ ?_ _ _) | (with_reducible refine Below.setCell ?_ ?_ _) | (with_reducible refine Below.alloc ?_ ?_ _) | (with_reducible refine Below.trans ?_ (Below.mono hb4 ?_)) | (with_reducible refine Below.trans ?_ (Below.mono hb3 ?_)) | (with_reducible refine Below.trans ?_ (Below.mono hb2 ?_)) | (with_reducible refine Below.trans ?_ (Below.mono hb1 ?_)) | (with_reducible refine Below.trans ?_ (Below.mono hbr ?_)) | (with_reducible refine Below.trans ?_ (Below.mono hb ?_)) | (simp; done) | (simp; omega) | omega)))).mono ?_
    rintro e w1 ⟨rfl, hb1⟩
    have m1 := hm.below hb1
    have hz1 := hb1.size
    go_wp2_with fail
    refine (same_zero _).mono ?_
    rintro e w2 ⟨rfl, hb2⟩
    have m2 := maxStep m1 hb2
    have hz2 := sizeStep hb2
    go_wp2_with fail
    refine (HL.out _ (m2.below (by repeat' (first | (with_reducible exact Below.refl _ _) | (with_reducible refine Below.drew ?_) | (with_reducible refine belowDrewN ?_ _) | (with_reducible refine belowIter ?_ ?_ _ _) | (with_reducible refine Below.setCell ?_ ?_ _) | (with_reducible refine Below.alloc ?_ ?_ _) | (with_reducible refine Below.trans ?_ (Below.mono hb4 ?_)) | (with_reducible refine Below.trans ?_ (Below.mono hb3 ?_)) | (with_reducible refine Below.trans ?_ (Below.mono hb2 ?_)) | (with_reducible refine Below.trans ?_ (Below.mono hb1 ?_)) | (with_reducible refine Below.trans ?_ (Below.mono hbr ?_)) | (with_reducible refine Below.trans ?_ (Below.mono hb ?_)) | (simp; done) | (simp; omega) | omega)))).mono ?_
    rintro e w3 ⟨rfl, hb3⟩
    go_wp2
    go_ret
    exact ⟨rfl, (by repeat' (first | (with_reducible exact Below.refl _ _) | (with_reducible refine Below.drew ?_) | (with_reducible refine belowDrewN ?_ _) | (with_reducible refine belowIter ?_ ?_ _ _) | (with_reducible refine Below.setCell ?_ ?_ _) | (with_reducible refine Below.alloc ?_ ?_ _) | (with_reducible refine Below.trans ?_ (Below.mono hb4 ?_)) | (with_reducible refine Below.trans ?_ (Below.mono hb3 ?_)) | (with_reducible refine Below.trans ?_ (Below.mono hb2 ?_)) | (with_reducible refine Below.trans ?_ (Below.mono hb1 ?_)) | (with_reducible refine Below.trans ?_ (Below.mono hbr ?_)) | (with_reducible refine Below.trans ?_ (Below.mono hb ?_)) | (simp; done) | (simp; omega) | omega))⟩
  | good x =>
    obtain ⟨o, rest⟩ := x
    rw [hR] at HOB
    obtain ⟨hsm, hck, hk9⟩ := readS_small hR
    have hlen := (readS_ok hR).2.2
    have HSM := Lib.hid hsm
    have HCK := Lib.hid hck
    have HLN := Lib.hid hlen
    have h9 : (o.kind != 9) = true := by simpa using hk9
    clear hR hsm hck hlen hk9
    go_enter Tryz.func5, Tryz.ntmps5
    go_wp2_with fail
    refine (HOB.out _ (hm.below (by repeat' (first | (with_reducible exact Below.refl _ _) | (with_reducible refine Below.drew ?_) | (with_reducible refine belowDrewN ?_ _) | (with_reducible refine belowIter ?_ ?_ _ _) | (with_reducible refine Below.setCell ?_ ?_ _) | (with_reducible refine Below.alloc ?_ ?_ _) | (with_reducible refine Below.trans ?_ (Below.mono hb4 ?_)) | (with_reducible refine Below.trans ?_ (Below.mono hb3 ?_)) | (with_reducible refine Below.trans ?_ (Below.mono hb2 ?_)) | (with_reducible refine Below.trans ?_ (Below.mono hb1 ?_)) | (with_reducible refine Below.trans ?_ (Below.mono hbr ?_)) | (with_reducible refine Below.trans ?_ (Below.mono hb ?_)) | (simp; done) | (simp; omega) | omega)))).mono ?_
    rintro e w1 ⟨p1, n1, c1, p2, n2, c2, z, rfl, hz0, rfl, O1, hb1⟩
    have m1 := hm.below hb1
    have hz1 := hb1.size
    have hzp : 0 < z := by
      have := HLN.out
      simp only [List.length_drop, Array.length_toList, show s.data.size = s.size from rfl] at this
      omega
    have HC := Lib.hid (fun W (hW : Below w1.heap.size w1 W) => Check_in (fun b => b < w1.heap.size) 25 W _ o (ObjAt.grow (S' := fun b => b < w1.heap.size) O1 (fun b h1 h2 => ⟨h2, hW.block b h2⟩)) HSM.out (fun b h => Nat.lt_of_lt_of_le h hW.size) (check_in _ 24 (by decide)))
    rw [HCK.out] at HC
    unfold objCells at HC
    clear O1
    go_wp2_with fail
    refine (HC.out _ (by repeat' (first | (with_reducible exact Below.refl _ _) | (with_reducible refine Below.drew ?_) | (with_reducible refine belowDrewN ?_ _) | (with_reducible refine belowIter ?_ ?_ _ _) | (with_reducible refine Below.setCell ?_ ?_ _) | (with_reducible refine Below.alloc ?_ ?_ _) | (with_reducible refine Below.trans ?_ (Below.mono hb4 ?_)) | (with_reducible refine Below.trans ?_ (Below.mono hb3 ?_)) | (with_reducible refine Below.trans ?_ (Below.mono hb2 ?_)) | (with_reducible refine Below.trans ?_ (Below.mono hb1 ?_)) | (with_reducible refine Below.trans ?_ (Below.mono hbr ?_)) | (with_reducible refine Below.trans ?_ (Below.mono hb ?_)) | (simp; done) | (simp; omega) | omega))).mono ?_
    rintro e w2 ⟨rfl, hb2⟩
    have m2 := maxStep m1 hb2
    have hz2 := sizeStep hb2
    obtain ⟨x0, x1, x2, x3, x4, x5, xf⟩ := six_of ((hb2.block _ (by simp)).trans (heap_new_at w1 _ _ rfl))
    go_wp2_with fail
    refine (HL.out _ (m2.below (by repeat' (first | (with_reducible exact Below.refl _ _) | (with_reducible refine Below.drew ?_) | (with_reducible refine belowDrewN ?_ _) | (with_reducible refine belowIter ?_ ?_ _ _) | (with_reducible refine Below.setCell ?_ ?_ _) | (with_reducible refine Below.alloc ?_ ?_ _) | (with_reducible refine Below.trans ?_ (Below.mono hb4 ?_)) | (with_reducible refine Below.trans ?_ (Below.mono hb3 ?_)) | (with_reducible refine Below.trans ?_ (Below.mono hb2 ?_)) | (with_reducible refine Below.trans ?_ (Below.mono hb1 ?_)) | (with_reducible refine Below.trans ?_ (Below.mono hbr ?_)) | (with_reducible refine Below.trans ?_ (Below.mono hb ?_)) | (simp; done) | (simp; omega) | omega)))).mono ?_
    rintro e w3 ⟨rfl, hb3⟩
    go_wp2
    go_ret
    exact ⟨rfl, (by repeat' (first | (with_reducible exact Below.refl _ _) | (with_reducible refine Below.drew ?_) | (with_reducible refine belowDrewN ?_ _) | (with_reducible refine belowIter ?_ ?_ _ _) | (with_reducible refine Below.setCell ?_ ?_ _) | (with_reducible refine Below.alloc ?_ ?_ _) | (with_reducible refine Below.trans ?_ (Below.mono hb4 ?_)) | (with_reducible refine Below.trans ?_ (Below.mono hb3 ?_)) | (with_reducible refine Below.trans ?_ (Below.mono hb2 ?_)) | (with_reducible refine Below.trans ?_ (Below.mono hb1 ?_)) | (with_reducible refine Below.trans ?_ (Below.mono hbr ?_)) | (with_reducible refine Below.trans ?_ (Below.mono hb ?_)) | (simp; done) | (simp; omega) | omega))⟩
end Go.Proofs.YtpadlepdgnlgnaaGreatDoor
