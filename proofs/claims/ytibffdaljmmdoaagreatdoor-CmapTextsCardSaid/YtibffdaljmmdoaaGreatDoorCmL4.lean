/- The walk of the statement that Text, Check, Utf and Units agree with the document. -/
import Derived.Test.YtibffdaljmmdoaaGreatDoorCmL5
import Derived.Test.YtibffdaljmmdoaaGreatDoorGRefD
set_option linter.all false
namespace Go.Proofs.YtibffdaljmmdoaaGreatDoor
open Go.RowKit Fo Go.Maps

def wrS (r : Res L) : ByteArray := match r with | .good x => ⟨x.toArray⟩ | .bad _ => ⟨#[]⟩
def wrE (r : Res L) : Int := match r with | .good _ => 0 | .bad k => k
theorem WrR_is {r : Res L} {e : Ending} (h : WrR r e) : e = .returned (.tuple #[.string (wrS r), .int .i64 (wrE r)]) := by
  cases r <;> exact h
def utS (r : Option L) : ByteArray := match r with | some x => ⟨x.toArray⟩ | none => ⟨#[]⟩
def utE (r : Option L) : Int := match r with | some _ => 0 | none => 3
theorem UtfR_is {r : Option L} {e : Ending} (h : UtfR r e) : e = .returned (.tuple #[.string (utS r), .int .i64 (utE r)]) := by
  cases r <;> exact h
set_option maxRecDepth 100000 in
set_option maxHeartbeats 1000000 in
theorem cmtexts_in (v : Value) (M : CM) (wide : Bool) (s : ByteArray) (m : Int) (w : World) (hv : MArg w v M) (hcap : MCap v) (hlM : M.length ≤ 9223372036854775807) (hs : s.size ≤ 140737488355327) (hm : MaxW w m) (hT : TabsW w) :
    Calls Tryz.prog 4 #[v, .bool wide, .string s] w fun e w' => e = .returned (.bool true) ∧ Below w.heap.size w w' := by
  have HL := Lib.hid (fun W hm hT => lives_in m W hm hT)
  have HM := Lib.hid (fun W (hW : Below w.heap.size w W) => hm.below hW)
  have HT := Lib.hid (fun W (hW : Below w.heap.size w W) => hT.below hW)
  have HA := Lib.hid (fun W (hW : Below w.heap.size w W) => hv.below hW)
  have HG := Lib.hid (light_in v M w hv hlM)
  have HCP := Lib.hid hcap
  obtain ⟨p, cp, rfl, _⟩ := hv
  obtain ⟨N, hN⟩ : ∃ N, M.length = N := ⟨_, rfl⟩
  cases hli : lightC M with
  | false =>
    rw [hli, hN] at HG
    rw [hN]
    clear hN hlM hli hcap
    go_enter Tryz.func4, Tryz.ntmps4
    go_wp2_with fail
    refine HG.out.mono ?_
    rintro e w1 ⟨rfl, hb1⟩
    have BW1 := Lib.hid hb1
    clear hb1
    go_wp2_with fail
    refine (HL.out _ (HM.out _ BW1.out) (HT.out _ BW1.out)).mono ?_
    rintro e w2 ⟨rfl, hb2⟩
    have BW2 := Lib.hid (BW1.out.trans (hb2.mono BW1.out.size))
    clear hb2
    go_wp2
    go_ret
    exact ⟨rfl, BW2.out⟩
  | true =>
    obtain ⟨h250, h1200⟩ := lightC_facts hli
    rw [hli, hN] at HG
    by_cases h6 : 600 < s.size
    · have d0 : decide ((600 : Int) < (s.size : Int)) = true := by simp; omega
      rw [hN]
      clear h6 hN hlM hli hcap h1200
      go_enter Tryz.func4, Tryz.ntmps4
      go_wp2_with fail
      refine HG.out.mono ?_
      rintro e w1 ⟨rfl, hb1⟩
      have BW1 := Lib.hid hb1
      clear hb1
      go_wp2_with fail
      refine (HL.out _ (HM.out _ BW1.out) (HT.out _ BW1.out)).mono ?_
      rintro e w2 ⟨rfl, hb2⟩
      have BW2 := Lib.hid (BW1.out.trans (hb2.mono BW1.out.size))
      clear hb2
      go_wp2
      go_ret
      exact ⟨rfl, BW2.out⟩
    have d0 : decide ((600 : Int) < (s.size : Int)) = false := by simp; omega
    have hw1 := fun W hW => (wtext_in _ M wide W (HA.out W hW) HCP.out (by omega) (fun x hx => by have := h1200 x hx; omega) (HT.out W hW)).mono fun e w' ⟨he, hb⟩ => (⟨WrR_is he, hb⟩ : e = _ ∧ _)
    have hw2 := fun W hW => (rtext_in _ M wide W (HA.out W hW) (by omega) (fun x hx => by have := h1200 x hx; omega)).mono fun e w' ⟨he, hb⟩ => (⟨WrR_is he, hb⟩ : e = _ ∧ _)
    have hc1 := fun W hW => check_in _ M wide W (HA.out W hW) (by omega) (fun x hx => by have := h1200 x hx; omega) (HT.out W hW)
    have hc2 := fun W hW => rcheck_in _ M wide W (HA.out W hW) (by omega) (fun x hx => by have := h1200 x hx; omega)
    have hu1 := fun W => (utf_in s (by omega) W).mono fun e w' ⟨he, hb⟩ => (⟨UtfR_is he, hb⟩ : e = _ ∧ _)
    have hu2 := fun W => (rutf_in s (by omega) W).mono fun e w' ⟨he, hb⟩ => (⟨UtfR_is he, hb⟩ : e = _ ∧ _)
    have hv1 := fun W => Units_in s (by omega) W
    have hv2 := fun W => rUnits_in s (by omega) W
    obtain ⟨A, hA⟩ : ∃ A, wrS (writeC M wide) = A := ⟨_, rfl⟩
    obtain ⟨E, hE⟩ : ∃ E, wrE (writeC M wide) = E := ⟨_, rfl⟩
    obtain ⟨K, hK⟩ : ∃ K, checkC M wide = K := ⟨_, rfl⟩
    obtain ⟨T, hTs⟩ : ∃ T, utS (utfS s.data.toList) = T := ⟨_, rfl⟩
    obtain ⟨G, hGs⟩ : ∃ G, utE (utfS s.data.toList) = G := ⟨_, rfl⟩
    obtain ⟨U, hUs⟩ : ∃ U, unitsS s.data.toList = U := ⟨_, rfl⟩
    rw [hN] at hw1 hw2 hc1 hc2 HA
    simp only [hA, hE] at hw1 hw2
    simp only [hK] at hc1 hc2
    simp only [hTs, hGs] at hu1 hu2
    simp only [hUs] at hv1 hv2
    rw [hN]
    have HW1 := Lib.hid hw1
    have HW2 := Lib.hid hw2
    have HC1 := Lib.hid hc1
    have HC2 := Lib.hid hc2
    have HU1 := Lib.hid hu1
    have HU2 := Lib.hid hu2
    have HV1 := Lib.hid hv1
    have HV2 := Lib.hid hv2
    clear hw1 hw2 hc1 hc2 hu1 hu2 hv1 hv2 hA hE hK hTs hGs hUs hN hlM hli hcap h1200 h6
    go_enter Tryz.func4, Tryz.ntmps4
    go_wp2_with fail
    refine HG.out.mono ?_
    rintro e w1 ⟨rfl, hb1⟩
    have BW1 := Lib.hid hb1
    clear hb1
    go_wp2_with fail
    refine (HW1.out _ BW1.out).mono ?_
    rintro e w2 ⟨rfl, hb2⟩
    have BW2 := Lib.hid (BW1.out.trans (hb2.mono BW1.out.size))
    clear hb2
    go_wp2_with fail
    refine (HW2.out _ BW2.out).mono ?_
    rintro e w3 ⟨rfl, hb3⟩
    have BW3 := Lib.hid (BW2.out.trans (hb3.mono BW2.out.size))
    clear hb3
    go_wp2_with fail
    refine (HU1.out _).mono ?_
    rintro e w4 ⟨rfl, hb4⟩
    have BW4 := Lib.hid (BW3.out.trans (hb4.mono BW3.out.size))
    clear hb4
    go_wp2_with fail
    refine (HU2.out _).mono ?_
    rintro e w5 ⟨rfl, hb5⟩
    have BW5 := Lib.hid (BW4.out.trans (hb5.mono BW4.out.size))
    clear hb5
    go_wp2_with fail
    refine (HC1.out _ BW5.out).mono ?_
    rintro e w6 ⟨rfl, hb6⟩
    have BW6 := Lib.hid (BW5.out.trans (hb6.mono BW5.out.size))
    clear hb6
    go_wp2_with fail
    refine (HC2.out _ BW6.out).mono ?_
    rintro e w7 ⟨rfl, hb7⟩
    have BW7 := Lib.hid (BW6.out.trans (hb7.mono BW6.out.size))
    clear hb7
    go_wp2_with fail
    refine (HV1.out _).mono ?_
    rintro e w8 ⟨rfl, hb8⟩
    have BW8 := Lib.hid (BW7.out.trans (hb8.mono BW7.out.size))
    clear hb8
    go_wp2_with fail
    refine (HV2.out _).mono ?_
    rintro e w9 ⟨rfl, hb9⟩
    have BW9 := Lib.hid (BW8.out.trans (hb9.mono BW8.out.size))
    clear hb9
    go_wp2_with fail
    refine (HL.out _ (HM.out _ BW9.out) (HT.out _ BW9.out)).mono ?_
    rintro e w10 ⟨rfl, hb10⟩
    have BW10 := Lib.hid (BW9.out.trans (hb10.mono BW9.out.size))
    clear hb10
    go_wp2
    go_ret
    exact ⟨rfl, BW10.out⟩
end Go.Proofs.YtibffdaljmmdoaaGreatDoor
