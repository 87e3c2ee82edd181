/- The walk of the statement that Read and Find agree with the reference. -/
import Derived.Test.YtibffdaljmmdoaaGreatDoorCmL6
import Derived.Test.YtibffdaljmmdoaaGreatDoorGRefC
import Derived.Test.YtibffdaljmmdoaaGreatDoorCqJ
set_option linter.all false
namespace Go.Proofs.YtibffdaljmmdoaaGreatDoor
open Go.RowKit Fo Go.Maps

/-- Read's answer, an error's or not. -/
def readU (l : L) : CM × Bool × Int := match readC l with | .bad k => ([], false, k) | .good (m, b) => (m, b, 0)
def ReadV (w : World) (M : CM) (b : Bool) (k : Int) (e : Ending) (w' : World) : Prop :=
  ∃ v, e = .returned (.tuple #[v, .bool b, .int .i64 k]) ∧ M.length ≤ 4096 ∧ MArg w' v M ∧ Below w.heap.size w w'
theorem ReadT.uni {w w' : World} {l : L} {e : Ending} {M : CM} {b : Bool} {k : Int} (hu : readU l = (M, b, k)) (h : ReadT w l e w') : ReadV w M b k e w' := by
  unfold ReadT at h
  unfold readU at hu
  cases hr : readC l with
  | bad j =>
    rw [hr] at h hu
    cases hu
    exact ⟨_, h.1, by simp, (mownS_nil w' 0).arg, h.2⟩
  | good z =>
    obtain ⟨m, b2⟩ := z
    rw [hr] at h hu
    cases hu
    obtain ⟨v, h1, h2, h3, h4⟩ := h
    exact ⟨v, h1, h2, h3.arg, h4⟩
set_option maxRecDepth 100000 in
set_option maxHeartbeats 1000000 in
theorem cmreads_in (s : ByteArray) (c : Int) (m : Int) (w : World) (hm : MaxW w m) (hT : TabsW w) :
    Calls Tryz.prog 3 #[.string s, .int .i64 c] w fun e w' => e = .returned (.bool true) ∧ Below w.heap.size w w' := by
  have HL := Lib.hid (fun W hm hT => lives_in m W hm hT)
  have HM := Lib.hid (fun W (hW : Below w.heap.size w W) => hm.below hW)
  have HT := Lib.hid (fun W (hW : Below w.heap.size w W) => hT.below hW)
  by_cases h6 : 3000 < s.size
  · have d0 : decide ((3000 : Int) < (s.size : Int)) = true := by simp; omega
    clear h6
    go_enter Tryz.func3, Tryz.ntmps3
    go_wp2_with fail
    refine (HL.out _ hm hT).mono ?_
    rintro e w1 ⟨rfl, hb1⟩
    go_wp2
    go_ret
    exact ⟨rfl, hb1⟩
  have d0 : decide ((3000 : Int) < (s.size : Int)) = false := by simp; omega
  obtain ⟨Z, hZ⟩ : ∃ Z, readU s.data.toList = Z := ⟨_, rfl⟩
  obtain ⟨M, b, k⟩ := Z
  have HA := Lib.hid (fun W hW => (cmread_in s (by omega) m W hW).mono (fun e w' h => ReadT.uni hZ h))
  have HB := Lib.hid (fun W => (rread46_in s (by omega) W).mono (fun e w' h => ReadT.uni hZ h))
  obtain ⟨X, Y, hF, hG⟩ : ∃ X Y, (∀ v W, MArg W v M → M.length ≤ 4096 → Calls Tryz.prog 11 #[v, .int .i64 c] W fun e w' => e = .returned (.tuple #[.string X, .bool Y]) ∧ Below W.heap.size W w') ∧ (∀ v W, MArg W v M → M.length ≤ 4096 → Calls Tryz.prog 12 #[v, .int .i64 c] W fun e w' => e = .returned (.tuple #[.string X, .bool Y]) ∧ Below W.heap.size W w') := by
    cases hfc : findC M c with
    | none => exact ⟨_, _, fun v W h1 h2 => by have := find_in v M c W h1 (Nat.le_trans h2 (by decide)); rw [hfc] at this; exact this, fun v W h1 h2 => by have := rfind_in v M c W h1 (Nat.le_trans h2 (by decide)); rw [hfc] at this; exact this⟩
    | some x => exact ⟨_, _, fun v W h1 h2 => by have := find_in v M c W h1 (Nat.le_trans h2 (by decide)); rw [hfc] at this; exact this, fun v W h1 h2 => by have := rfind_in v M c W h1 (Nat.le_trans h2 (by decide)); rw [hfc] at this; exact this⟩
  have HF := Lib.hid hF
  have HG := Lib.hid hG
  have HS := Lib.hid (fun v1 v2 W h1 h2 (h3 : M.length ≤ 4096) => rsame_refl v1 v2 M W h1 h2 (Nat.le_trans h3 (by decide)))
  have q1 : (X.toList == X.toList) = true := by simp
  have q2 : (Y == Y) = true := by simp
  have q3 : (b == b) = true := by simp
  have q4 : (k == k) = true := by simp
  clear hF hG hZ h6
  go_enter Tryz.func3, Tryz.ntmps3
  go_wp2_with fail
  refine (HA.out _ hm).mono ?_
  rintro e w1 ⟨v1, rfl, hl1, A1, hb1⟩
  have AA := Lib.hid A1
  have HLN := Lib.hid hl1
  obtain ⟨p1, c1, rfl, _⟩ := A1
  have BW1 := Lib.hid hb1
  clear hb1 hl1
  go_wp2_with fail
  refine (HB.out _).mono ?_
  rintro e w2 ⟨v2, rfl, _, A2, hb2⟩
  have AB := Lib.hid A2
  have AA2 := Lib.hid (AA.out.below hb2)
  obtain ⟨p2, c2, rfl, _⟩ := A2
  have BW2 := Lib.hid (BW1.out.trans (hb2.mono BW1.out.size))
  clear hb2 AA
  go_wp2_with fail
  refine (HF.out _ _ AB.out HLN.out).mono ?_
  rintro e w3 ⟨rfl, hb3⟩
  have AB3 := Lib.hid (AB.out.below hb3)
  have AA3 := Lib.hid (AA2.out.below hb3)
  have BW3 := Lib.hid (BW2.out.trans (hb3.mono BW2.out.size))
  clear hb3 AB AA2
  go_wp2_with fail
  refine (HG.out _ _ AB3.out HLN.out).mono ?_
  rintro e w4 ⟨rfl, hb4⟩
  have AB4 := Lib.hid (AB3.out.below hb4)
  have AA4 := Lib.hid (AA3.out.below hb4)
  have BW4 := Lib.hid (BW3.out.trans (hb4.mono BW3.out.size))
  clear hb4 AB3 AA3
  go_wp2_with fail
  refine (HS.out _ _ _ AA4.out AB4.out HLN.out).mono ?_
  rintro e w5 ⟨rfl, hb5⟩
  have BW5 := Lib.hid (BW4.out.trans (hb5.mono BW4.out.size))
  clear hb5 AB4 AA4
  go_wp2_with fail
  refine (HL.out _ (HM.out _ BW5.out) (HT.out _ BW5.out)).mono ?_
  rintro e w6 ⟨rfl, hb6⟩
  have BW6 := Lib.hid (BW5.out.trans (hb6.mono BW5.out.size))
  clear hb6
  go_wp2
  go_ret
  exact ⟨rfl, BW6.out⟩
end Go.Proofs.YtibffdaljmmdoaaGreatDoor
