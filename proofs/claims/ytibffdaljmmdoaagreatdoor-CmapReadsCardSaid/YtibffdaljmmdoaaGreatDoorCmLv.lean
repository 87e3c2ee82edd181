/- The statements' own look at a few fixed inputs. -/
import Derived.Test.YtibffdaljmmdoaaGreatDoorCmTf
import Derived.Test.YtibffdaljmmdoaaGreatDoorGRdC
set_option linter.all false
namespace Go.Proofs.YtibffdaljmmdoaaGreatDoor
open Go.RowKit Fo Go.Maps

theorem lr1 : readC [49, 32, 98, 101, 103, 105, 110, 98, 102, 114, 97, 110, 103, 101, 32, 60, 52, 49, 62, 60, 52, 51, 62, 60, 48, 48, 54, 49, 62, 32, 101, 110, 100, 98, 102, 114, 97, 110, 103, 101] = .good ([(65, [97]), (66, [98]), (67, [99])], false) := by kernel_rfl
theorem lr2 : readC [98, 101, 103, 105, 110, 98, 102, 99, 104, 97, 114, 32, 60, 52, 49, 62] = .bad 4 := by kernel_rfl
theorem lr3 : readC [98, 101, 103, 105, 110, 98, 102, 114, 97, 110, 103, 101, 32, 60, 52, 49, 62, 60, 52, 50, 62, 60, 70, 70, 70, 70, 62, 32, 101, 110, 100, 98, 102, 114, 97, 110, 103, 101] = .bad 2 := by kernel_rfl
theorem lr4 : readC [98, 101, 103, 105, 110, 98, 102, 99, 104, 97, 114, 32, 60, 48, 48, 52, 49, 62, 60, 68, 56, 51, 68, 68, 69, 48, 48, 62, 32, 101, 110, 100, 98, 102, 99, 104, 97, 114] = .good ([(65, [240, 159, 152, 128])], true) := by kernel_rfl
def lvText : L := [49, 32, 98, 101, 103, 105, 110, 99, 111, 100, 101, 115, 112, 97, 99, 101, 114, 97, 110, 103, 101, 10, 60, 48, 48, 62, 32, 60, 70, 70, 62, 10, 101, 110, 100, 99, 111, 100, 101, 115, 112, 97, 99, 101, 114, 97, 110, 103, 101, 10, 49, 32, 98, 101, 103, 105, 110, 98, 102, 99, 104, 97, 114, 10, 60, 52, 49, 62, 32, 60, 48, 48, 54, 49, 62, 10, 101, 110, 100, 98, 102, 99, 104, 97, 114, 10, 101, 110, 100, 99, 109, 97, 112, 10]
theorem lt1 : writeC [(65, [97])] false = .good lvText := by kernel_rfl
theorem lu1 : utfS [0, 97] = some [97] := by kernel_rfl
theorem lu2 : utfS [216, 0] = none := by kernel_rfl
theorem lu3 : unitsS [97] = [0, 97] := by kernel_rfl
theorem lf1 : findC [(65, [97]), (66, [98]), (67, [99])] 66 = some [98] := by kernel_rfl
theorem lc1 : checkC [(256, [])] false = 2 := by kernel_rfl
theorem mread_bad (l : L) (k : Int) (h : readC l = .bad k) (hl : l.length ≤ 1000000) (m : Int) (w : World) (hm : MaxW w m) :
    Calls Tryz.prog 9 #[.string ⟨l.toArray⟩] w fun e w' => e = .returned (.tuple #[.slice none 0 0, .bool false, .int .i64 k]) ∧ Below w.heap.size w w' := by
  have := cmread_in ⟨l.toArray⟩ (by show l.length ≤ _; omega) m w hm
  unfold ReadT at this
  simp only [List.toList_toArray, h] at this
  exact this
theorem mread_good (l : L) (M : CM) (b : Bool) (h : readC l = .good (M, b)) (hl : l.length ≤ 1000000) (m : Int) (w : World) (hm : MaxW w m) :
    Calls Tryz.prog 9 #[.string ⟨l.toArray⟩] w fun e w' => ∃ v, e = .returned (.tuple #[v, .bool b, .int .i64 0]) ∧ M.length ≤ 4096 ∧ mownS w' w.heap.size v M ∧ Below w.heap.size w w' := by
  have := cmread_in ⟨l.toArray⟩ (by show l.length ≤ _; omega) m w hm
  unfold ReadT at this
  simp only [List.toList_toArray, h] at this
  exact this
theorem utf_some (l x : L) (h : utfS l = some x) (hl : l.length ≤ 1000000) (w : World) :
    Calls Tryz.prog 17 #[.string ⟨l.toArray⟩] w fun e w' => e = .returned (.tuple #[.string ⟨x.toArray⟩, .int .i64 0]) ∧ Below w.heap.size w w' := by
  have := utf_in ⟨l.toArray⟩ (by show l.length ≤ _; omega) w
  simp only [List.toList_toArray, h] at this
  exact this
theorem utf_none (l : L) (h : utfS l = none) (hl : l.length ≤ 1000000) (w : World) :
    Calls Tryz.prog 17 #[.string ⟨l.toArray⟩] w fun e w' => e = .returned (.tuple #[.string ⟨#[]⟩, .int .i64 3]) ∧ Below w.heap.size w w' := by
  have := utf_in ⟨l.toArray⟩ (by show l.length ≤ _; omega) w
  simp only [List.toList_toArray, h] at this
  exact this
theorem units_lit (l x : L) (h : unitsS l = x) (hl : l.length ≤ 1000000) (w : World) :
    Calls Tryz.prog 21 #[.string ⟨l.toArray⟩] w fun e w' => e = .returned (.string ⟨x.toArray⟩) ∧ Below w.heap.size w w' := by
  have := Units_in ⟨l.toArray⟩ (by show l.length ≤ _; omega) w
  simp only [List.toList_toArray, h] at this
  exact this
/-- A mapping of one entry, as the statement lays it. -/
theorem marg_one (w : World) (c : Int) (s : L) : MArg (w.alloc (.cells #[.int .i64 c, .string ⟨s.toArray⟩] 44)) (.slice (some ⟨w.heap.size, 0, none⟩) 1 1) [(c, s)] := by
  refine ⟨_, _, rfl, fun k hk => ?_⟩
  obtain rfl : k = 0 := by simpa using hk
  exact ⟨w.heap.size, 0, rfl, by simp, by simp [go_sem], by simp [go_sem]⟩
theorem text_lit (c : Int) (s x : L) (b : Bool) (h : writeC [(c, s)] b = .good x) (hs : s.length ≤ 1000000) (w : World) (hT : TabsW w) :
    Calls Tryz.prog 15 #[.slice (some ⟨w.heap.size, 0, none⟩) 1 1, .bool b] (w.alloc (.cells #[.int .i64 c, .string ⟨s.toArray⟩] 44)) fun e w' => e = .returned (.tuple #[.string ⟨x.toArray⟩, .int .i64 0]) ∧ Below w.heap.size w w' := by
  have := wtext_in (.slice (some ⟨w.heap.size, 0, none⟩) 1 1) [(c, s)] b (w.alloc (.cells #[.int .i64 c, .string ⟨s.toArray⟩] 44)) (marg_one w c s) (fun p n k e => by cases e; omega) (by simp) (by simpa using hs) (hT.below ((Below.refl _ _).alloc (Nat.le_refl _) _))
  refine this.mono ?_
  rintro e w' ⟨he, hb⟩
  rw [h] at he
  exact ⟨he, ((Below.refl _ _).alloc (Nat.le_refl _) _).trans (hb.mono (by simp))⟩
theorem check_lit (c : Int) (s : L) (b : Bool) (k : Int) (h : checkC [(c, s)] b = k) (hs : s.length ≤ 1000000) (w : World) (hT : TabsW w) :
    Calls Tryz.prog 19 #[.slice (some ⟨w.heap.size, 0, none⟩) 1 1, .bool b] (w.alloc (.cells #[.int .i64 c, .string ⟨s.toArray⟩] 44)) fun e w' => e = .returned (.int .i64 k) ∧ Below w.heap.size w w' := by
  have := check_in (.slice (some ⟨w.heap.size, 0, none⟩) 1 1) [(c, s)] b (w.alloc (.cells #[.int .i64 c, .string ⟨s.toArray⟩] 44)) (marg_one w c s) (by simp) (by simpa using hs) (hT.below ((Below.refl _ _).alloc (Nat.le_refl _) _))
  refine this.mono ?_
  rintro e w' ⟨he, hb⟩
  rw [h] at he
  exact ⟨he, ((Below.refl _ _).alloc (Nat.le_refl _) _).trans (hb.mono (by simp))⟩
theorem find_lit (v : Value) (M : CM) (c : Int) (x : L) (h : findC M c = some x) (hm : M.length ≤ 1000000) (w : World) (hv : MArg w v M) :
    Calls Tryz.prog 11 #[v, .int .i64 c] w fun e w' => e = .returned (.tuple #[.string ⟨x.toArray⟩, .bool true]) ∧ Below w.heap.size w w' := by
  have := find_in v M c w hv hm
  simp only [h] at this
  exact this
set_option maxRecDepth 100000 in
set_option maxHeartbeats 2000000 in
theorem lives_in (m : Int) (w : World) (hm : MaxW w m) (hT : TabsW w) : Calls Tryz.prog 8 #[] w fun e w' => e = .returned (.bool true) ∧ Below w.heap.size w w' := by
  have HM := Lib.hid (fun W (hW : Below w.heap.size w W) => hm.below hW)
  have HT := Lib.hid (fun W (hW : Below w.heap.size w W) => hT.below hW)
  go_enter Tryz.func8, Tryz.ntmps8
  go_wp2_with fail
  refine (mread_good _ _ _ lr1 (by decide) m _ hm).mono ?_
  rintro e w1 ⟨v1, rfl, _, M1, hb1⟩
  obtain ⟨p1, c1, rfl⟩ := mown_slice M1
  have A1 := Lib.hid M1.arg
  have BW1 := Lib.hid hb1
  clear M1 hb1
  simp only [List.length_cons, List.length_nil, Nat.reduceAdd] at A1 ⊢
  go_wp2_with fail
  refine (mread_bad _ _ lr2 (by decide) m _ (HM.out _ BW1.out)).mono ?_
  rintro e w2 ⟨rfl, hb2⟩
  have C2 := Lib.hid hb2
  have BW2 := Lib.hid (BW1.out.trans (hb2.mono BW1.out.size))
  clear hb2
  go_wp2_with fail
  refine (mread_bad _ _ lr3 (by decide) m _ (HM.out _ BW2.out)).mono ?_
  rintro e w3 ⟨rfl, hb3⟩
  have C3 := Lib.hid (C2.out.trans (hb3.mono C2.out.size))
  have BW3 := Lib.hid (BW2.out.trans (hb3.mono BW2.out.size))
  clear hb3
  go_wp2_with fail
  refine (mread_good _ _ _ lr4 (by decide) m _ (HM.out _ BW3.out)).mono ?_
  rintro e w4 ⟨v4, rfl, _, M4, hb4⟩
  obtain ⟨p4, c4, rfl⟩ := mown_slice M4
  have A4 := Lib.hid M4.arg
  have C4 := Lib.hid (C3.out.trans (hb4.mono C3.out.size))
  have BW4 := Lib.hid (BW3.out.trans (hb4.mono BW3.out.size))
  clear M4 hb4
  simp only [List.length_cons, List.length_nil, Nat.reduceAdd] at A4 ⊢
  obtain ⟨X, hX⟩ : ∃ X : ByteArray, ⟨lvText.toArray⟩ = X := ⟨_, rfl⟩
  have HTX := Lib.hid (hX ▸ text_lit 65 [97] _ false lt1 (by decide) w4 (HT.out _ BW4.out))
  have hxl : X.toList = [49, 32, 98, 101, 103, 105, 110, 99, 111, 100, 101, 115, 112, 97, 99, 101, 114, 97, 110, 103, 101, 10, 60, 48, 48, 62, 32, 60, 70, 70, 62, 10, 101, 110, 100, 99, 111, 100, 101, 115, 112, 97, 99, 101, 114, 97, 110, 103, 101, 10, 49, 32, 98, 101, 103, 105, 110, 98, 102, 99, 104, 97, 114, 10, 60, 52, 49, 62, 32, 60, 48, 48, 54, 49, 62, 10, 101, 110, 100, 98, 102, 99, 104, 97, 114, 10, 101, 110, 100, 99, 109, 97, 112, 10] := by rw [← hX, ByteArray.toList_eq]; rfl
  clear hX
  go_wp2_with fail
  refine HTX.out.mono ?_
  rintro e w5 ⟨rfl, hb5⟩
  have C5 := Lib.hid (C4.out.trans (hb5.mono C4.out.size))
  have D5 := Lib.hid hb5
  have BW5 := Lib.hid (BW4.out.trans (hb5.mono BW4.out.size))
  clear hb5
  go_wp2_with fail
  refine (utf_some _ _ lu1 (by decide) _).mono ?_
  rintro e w6 ⟨rfl, hb6⟩
  have C6 := Lib.hid (C5.out.trans (hb6.mono C5.out.size))
  have D6 := Lib.hid (D5.out.trans (hb6.mono D5.out.size))
  have BW6 := Lib.hid (BW5.out.trans (hb6.mono BW5.out.size))
  clear hb6
  go_wp2_with fail
  refine (utf_none _ lu2 (by decide) _).mono ?_
  rintro e w7 ⟨rfl, hb7⟩
  have C7 := Lib.hid (C6.out.trans (hb7.mono C6.out.size))
  have D7 := Lib.hid (D6.out.trans (hb7.mono D6.out.size))
  have BW7 := Lib.hid (BW6.out.trans (hb7.mono BW6.out.size))
  clear hb7
  go_wp2_with fail
  refine (find_lit _ _ 66 _ lf1 (by decide) w7 (A1.out.below C7.out)).mono ?_
  rintro e w8 ⟨rfl, hb8⟩
  have C8 := Lib.hid (C7.out.trans (hb8.mono C7.out.size))
  have D8 := Lib.hid (D7.out.trans (hb8.mono D7.out.size))
  have BW8 := Lib.hid (BW7.out.trans (hb8.mono BW7.out.size))
  clear hb8
  obtain ⟨q1, n1, e1, k1⟩ := A1.out.below C8.out
  obtain ⟨g1, o1, e2, hg1, d1, d2⟩ := k1 2 (by decide)
  obtain ⟨q4, n4, e4, k4⟩ := A4.out.below D8.out
  obtain ⟨g4, o4, e5, hg4, d4, d5⟩ := k4 0 (by decide)
  simp only [Value.slice.injEq] at e1 e4
  obtain ⟨rfl, ea, rfl⟩ := e1
  obtain ⟨rfl, eb, rfl⟩ := e4
  clear ea eb
  subst e2
  subst e5
  replace d1 : w8.cell? ⟨g1, o1 + 4, none⟩ = some (.int .i64 67) := d1
  have d3 : w8.cell? ⟨g1, o1 + 5, none⟩ = some (.string ⟨#[99]⟩) := d2
  replace d2 : w8.cell? ⟨g1, o1 + 4 + 1, none⟩ = some (.string ⟨#[99]⟩) := d2
  replace d5 : w8.cell? ⟨g4, o4 + 1, none⟩ = some (.string ⟨#[240, 159, 152, 128]⟩) := by simpa using d5
  clear k1 k4 d4
  go_wp2_with fail
  refine (units_lit _ _ lu3 (by decide) _).mono ?_
  rintro e w9 ⟨rfl, hb9⟩
  have BW9 := Lib.hid (BW8.out.trans (hb9.mono BW8.out.size))
  clear hb9 d1 d2 d3 d5
  go_wp2_with fail
  refine (check_lit 256 [] false _ lc1 (by decide) w9 (HT.out _ BW9.out)).mono ?_
  rintro e w10 ⟨rfl, hb10⟩
  have BW10 := Lib.hid (BW9.out.trans (hb10.mono BW9.out.size))
  clear hb10
  go_wp2
  go_ret
  exact ⟨rfl, BW10.out⟩
end Go.Proofs.YtibffdaljmmdoaaGreatDoor
