/- The walks of light and of the statement that what is written is read back. -/
import Derived.Test.YtibffdaljmmdoaaGreatDoorCmL6
import Derived.Test.YtibffdaljmmdoaaGreatDoorGRefC
set_option linter.all false
namespace Go.Proofs.YtibffdaljmmdoaaGreatDoor
open Go.RowKit Fo Go.Maps

def lightC (m : CM) : Bool := (m.all fun x => decide (x.2.length ≤ 1200)) && decide (m.length ≤ 250)
theorem lightC_no {m : CM} {k : Nat} (hk : k < m.length) (h : 1200 < (m[k]).2.length) : lightC m = false := by
  unfold lightC
  have : (m.all fun x => decide (x.2.length ≤ 1200)) = false := by
    rw [List.all_eq_false]
    exact ⟨m[k], List.getElem_mem hk, by simp; exact h⟩
  rw [this]; rfl
theorem lightC_yes {m : CM} (h : ∀ k (hk : k < m.length), (m[k]).2.length ≤ 1200) : lightC m = decide (m.length ≤ 250) := by
  unfold lightC
  have : (m.all fun x => decide (x.2.length ≤ 1200)) = true := by
    rw [List.all_eq_true]
    intro x hx
    obtain ⟨k, hk, rfl⟩ := List.mem_iff_getElem.1 hx
    simpa using h k hk
  rw [this]; rfl
theorem lightC_facts {m : CM} (h : lightC m = true) : m.length ≤ 250 ∧ ∀ x ∈ m, x.2.length ≤ 1200 := by
  unfold lightC at h
  simp only [Bool.and_eq_true, List.all_eq_true, decide_eq_true_eq] at h
  exact ⟨h.2, h.1⟩
set_option maxRecDepth 100000 in
set_option maxHeartbeats 1000000 in
theorem light_in (v : Value) (m : CM) (w : World) (hv : MArg w v m) (hm : m.length ≤ 9223372036854775807) :
    Calls Tryz.prog 14 #[v] w fun e w' => e = .returned (.bool (lightC m)) ∧ Below w.heap.size w w' := by
  obtain ⟨p, cp, rfl, hcell⟩ := hv
  have HC := Lib.hid hcell
  clear hcell
  obtain ⟨N, hN⟩ : ∃ N, m.length = N := ⟨_, rfl⟩
  obtain ⟨R, hR⟩ : ∃ R, lightC m = R := ⟨_, rfl⟩
  rw [hR]
  have HR := Lib.hid hR
  have HN := Lib.hid hN
  clear hR
  rw [hN] at hm ⊢
  clear hN
  have hm2 : (N : Int) ≤ 9223372036854775807 := by omega
  go_enter Tryz.func14, Tryz.ntmps14
  go_wp2
  go_loopw [3] (fun i wr => ∃ k : Nat, k ≤ N ∧ i = .int .i64 k ∧ Hid (∀ j (hj : j < m.length), j < k → (m[j]).2.length ≤ 1200) ∧ Below w.heap.size w wr) (fun i _ => N - (intOf i).toNat)
  case atStart => exact ⟨0, Nat.zero_le _, rfl, Lib.hid (fun j _ h => absurd h (Nat.not_lt_zero _)), Below.refl _ _⟩
  case round =>
    obtain ⟨k, hk, rfl, HF, hbr⟩ := hrel
    by_cases hlk : k < N
    · have hlk2 : k < m.length := by rw [HN.out]; exact hlk
      obtain ⟨g, off, rfl, hg, d0, d1⟩ := HC.out k hlk2
      have HX := Lib.hid (show 1200 < (m[k]).2.length → R = false from fun h => HR.out ▸ lightC_no hlk2 h)
      have HY := Lib.hid (show (m[k]).2.length ≤ 1200 → ∀ j (hj : j < m.length), j < k + 1 → (m[j]).2.length ≤ 1200 from fun h j hj hjk => by
        by_cases e : j < k
        · exact HF.out j hj e
        · obtain rfl : j = k := by omega
          exact h)
      obtain ⟨x, hx⟩ : ∃ x, (m[k]).2 = x := ⟨_, rfl⟩
      rw [hx] at d1 HX HY
      have c1 := (World.cell?_of_block (hbr.block g hg)).trans d1
      clear d0 d1 hx hlk2 HF
      by_cases hl : 1200 < x.length
      · have e1 : decide ((1200 : Int) < (x.length : Int)) = true := by simp; omega
        obtain rfl := HX.out hl
        clear hl HX HY
        go_wp2
        go_ret
        exact ⟨rfl, hbr⟩
      · have e1 : decide ((1200 : Int) < (x.length : Int)) = false := by simp; omega
        have HZ := Lib.hid (HY.out (by omega))
        clear hl HX HY
        go_wp2
        go_roundw
        case rel => exact ⟨k + 1, by omega, by go_num, HZ, hbr⟩
        case measure => simp [intOf]; omega
    · obtain rfl : R = decide (N ≤ 250) := by
        rw [← HR.out, ← HN.out]; exact lightC_yes (fun j hj => HF.out j hj (by have := HN.out; omega))
      clear HR
      by_cases h : N ≤ 250
      · have e1 : decide ((N : Int) ≤ 250) = true := by simp; omega
        have HE2 := Lib.hid (show (Ending.returned (.bool true)) = Ending.returned (.bool (decide (N ≤ 250))) by rw [decide_eq_true h])
        clear h
        go_wp2
        go_ret
        exact ⟨HE2.out, hbr⟩
      · have e1 : decide ((N : Int) ≤ 250) = false := by simp; omega
        have HE2 := Lib.hid (show (Ending.returned (.bool false)) = Ending.returned (.bool (decide (N ≤ 250))) by rw [decide_eq_false h])
        clear h
        go_wp2
        go_ret
        exact ⟨HE2.out, hbr⟩
theorem body_len2 (m : CM) (wide : Bool) (hm : m.length ≤ 250) (h : ∀ x ∈ m, (unitsS x.2).length ≤ 512) : (bodyC m wide).length ≤ 60000000 := by
  rw [← all_body]
  have e : allP wide m = (outP wide m (starts m.length) ++ [p5L]) ++ [[]] := by simp [allP]
  rw [e, join_lines]
  have hc : ∀ c, (codeB c wide).length ≤ 2 := fun c => by rw [codeB_len]; cases wide <;> simp [sizeC]
  refine Nat.le_trans (flat_len _ 2000 ?_) ?_
  · intro q hq
    simp only [outP, headP, chunkP, List.mem_append, List.mem_cons, List.mem_flatMap, List.mem_map, List.not_mem_nil, or_false] at hq
    rcases hq with ((rfl | rfl | rfl) | ⟨i, _, rfl | ⟨x, hx, rfl⟩ | rfl⟩) | rfl
    · decide
    · have h0 := hc 0
      have h1 := hc 65535
      simp only [spaceP, List.length_append, List.length_cons, List.length_nil, shown_len]
      omega
    · decide
    · have := decL_len 5 (chunkOf m i).length
      simp [p3L]
      omega
    · have hx1 : x ∈ m := by unfold chunkOf at hx; exact List.mem_of_mem_drop (List.mem_of_mem_take hx)
      have h0 := hc x.1.toNat
      have h1 := h x hx1
      simp only [rowP, List.length_append, List.length_cons, List.length_nil, shown_len]
      omega
    · decide
    · decide
  · have h1 := outP_len wide m (starts m.length)
    have h2 := startsF_len (m.length + 1) 0 m.length
    unfold starts at h1 ⊢
    rw [List.length_append]
    simp only [List.length_cons, List.length_nil]
    omega
theorem mread_big (l : L) (M : CM) (b : Bool) (h : readC l = .good (M, b)) (hl : l.length ≤ 1000000000) (m : Int) (w : World) (hm : MaxW w m) :
    Calls Tryz.prog 9 #[.string ⟨l.toArray⟩] w fun e w' => ∃ v, e = .returned (.tuple #[v, .bool b, .int .i64 0]) ∧ M.length ≤ 4096 ∧ mownS w' w.heap.size v M ∧ Below w.heap.size w w' := by
  have := cmread_in ⟨l.toArray⟩ (by show l.length ≤ _; omega) m w hm
  unfold ReadT at this
  simp only [List.toList_toArray, h] at this
  exact this
set_option maxRecDepth 100000 in
set_option maxHeartbeats 1000000 in
theorem cmback_in (v : Value) (M : CM) (wide : Bool) (m : Int) (w : World) (hv : MArg w v M) (hcap : MCap v) (hlM : M.length ≤ 9223372036854775807) (hm : MaxW w m) (hT : TabsW w) :
    Calls Tryz.prog 5 #[v, .bool wide] w fun e w' => e = .returned (.bool true) ∧ Below w.heap.size w w' := by
  have HL := Lib.hid (fun W hm hT => lives_in m W hm hT)
  have HM := Lib.hid (fun W (hW : Below w.heap.size w W) => hm.below hW)
  have HT := Lib.hid (fun W (hW : Below w.heap.size w W) => hT.below hW)
  have HA := Lib.hid (fun W (hW : Below w.heap.size w W) => hv.below hW)
  have HG := Lib.hid (light_in v M w hv hlM)
  have HCP := Lib.hid hcap
  obtain ⟨p, cp, rfl, _⟩ := hv
  obtain ⟨N, hN⟩ : ∃ N, M.length = N := ⟨_, rfl⟩
  cases hli : lightC M with
  | false =>
    rw [hli, hN] at HG
    rw [hN]
    clear hN hlM hli hcap
    go_enter Tryz.func5, Tryz.ntmps5
    go_wp2_with fail
    refine HG.out.mono ?_
    rintro e w1 ⟨rfl, hb1⟩
    have BW1 := Lib.hid hb1
    clear hb1
    go_wp2_with fail
    refine (HL.out _ (HM.out _ BW1.out) (HT.out _ BW1.out)).mono ?_
    rintro e w2 ⟨rfl, hb2⟩
    have BW2 := Lib.hid (BW1.out.trans (hb2.mono BW1.out.size))
    clear hb2
    go_wp2
    go_ret
    exact ⟨rfl, BW2.out⟩
  | true =>
    obtain ⟨h250, h1200⟩ := lightC_facts hli
    have HWR := Lib.hid (fun W hW => wtext_in _ M wide W (HA.out W hW) HCP.out (by omega) (fun x hx => by have := h1200 x hx; omega) (HT.out W hW))
    rw [hli, hN] at HG
    by_cases hck : checkC M wide = 0
    · have hwr : writeC M wide = .good (bodyC M wide) := by unfold writeC; rw [if_pos hck]
      have hus : ∀ x ∈ M, (unitsS x.2).length ≤ 512 := fun x hx => by
        unfold checkC at hck; split at hck
        · cases hck
        · exact (checkGo_small _ _ _ hck x hx).2.2
      have hrd := readC_body M wide hck
      have hbl := body_len2 M wide h250 hus
      rw [hwr] at HWR
      obtain ⟨B, hB⟩ : ∃ B, bodyC M wide = B := ⟨_, rfl⟩
      rw [hB] at HWR hrd hbl
      have HRD := Lib.hid (fun W hW => mread_big B M wide hrd (by omega) m W hW)
      have HSM := Lib.hid (fun v2 W (h1 : MArg W (.slice p M.length cp) M) (h2 : MArg W v2 M) => rsame_refl _ v2 M W h1 h2 (by omega))
      have ewide : (wide == wide) = true := by simp
      clear hck hwr hus hrd hbl hB hli h1200 hcap
      rw [hN] at HWR HRD HSM HA ⊢
      clear hN
      go_enter Tryz.func5, Tryz.ntmps5
      go_wp2_with fail
      refine HG.out.mono ?_
      rintro e w1 ⟨rfl, hb1⟩
      have BW1 := Lib.hid hb1
      clear hb1
      go_wp2_with fail
      refine (HWR.out _ BW1.out).mono ?_
      rintro e w2 ⟨he, hb2⟩
      unfold WrR at he
      obtain rfl := he
      have BW2 := Lib.hid (BW1.out.trans (hb2.mono BW1.out.size))
      clear hb2
      go_wp2_with fail
      refine (HRD.out _ (HM.out _ BW2.out)).mono ?_
      rintro e w3 ⟨v3, rfl, _, M3, hb3⟩
      obtain ⟨p3, c3, rfl⟩ := mown_slice M3
      have A3 := Lib.hid M3.arg
      have BW3 := Lib.hid (BW2.out.trans (hb3.mono BW2.out.size))
      clear M3 hb3
      go_wp2_with fail
      refine (HSM.out _ _ (HA.out _ BW3.out) A3.out).mono ?_
      rintro e w4 ⟨rfl, hb4⟩
      have BW4 := Lib.hid (BW3.out.trans (hb4.mono BW3.out.size))
      clear hb4
      go_wp2_with fail
      refine (HL.out _ (HM.out _ BW4.out) (HT.out _ BW4.out)).mono ?_
      rintro e w5 ⟨rfl, hb5⟩
      have BW5 := Lib.hid (BW4.out.trans (hb5.mono BW4.out.size))
      clear hb5
      go_wp2
      go_ret
      exact ⟨rfl, BW5.out⟩
    · have hwr : writeC M wide = .bad (checkC M wide) := by unfold writeC; rw [if_neg hck]
      rw [hwr] at HWR
      obtain ⟨k, hk⟩ : ∃ k, checkC M wide = k := ⟨_, rfl⟩
      rw [hk] at HWR hck
      have k1 : (k != 0) = true := by simpa using hck
      clear hck hwr hk hli h1200 hcap
      rw [hN] at HWR HA ⊢
      clear hN
      go_enter Tryz.func5, Tryz.ntmps5
      go_wp2_with fail
      refine HG.out.mono ?_
      rintro e w1 ⟨rfl, hb1⟩
      have BW1 := Lib.hid hb1
      clear hb1
      go_wp2_with fail
      refine (HWR.out _ BW1.out).mono ?_
      rintro e w2 ⟨he, hb2⟩
      unfold WrR at he
      obtain rfl := he
      have BW2 := Lib.hid (BW1.out.trans (hb2.mono BW1.out.size))
      clear hb2
      go_wp2_with fail
      refine (HL.out _ (HM.out _ BW2.out) (HT.out _ BW2.out)).mono ?_
      rintro e w5 ⟨rfl, hb5⟩
      have BW5 := Lib.hid (BW2.out.trans (hb5.mono BW2.out.size))
      clear hb5
      go_wp2
      go_ret
      exact ⟨rfl, BW5.out⟩
end Go.Proofs.YtibffdaljmmdoaaGreatDoor
