/- The walk of foliantref05's check of whole objects. -/
import Derived.Test.YtpadlepdgnlgnaaGreatDoorCheckB
set_option linter.all false
namespace Go.Proofs.YtpadlepdgnlgnaaGreatDoor
open Go.RowKit Fo

theorem uses_eq (o : Ob) : usesV o.kind o.n o.g o.s o.keys.length o.kids.length = usesB o := by
  have hz : ∀ n g t l, zeroV o.n o.g o.s o.keys.length o.kids.length n g t l = zeroB o n g t l := by
    intro n g t l
    unfold zeroV zeroB
    have e1 : ((o.keys.length : Int) == 0) = o.keys.isEmpty := by cases o.keys <;> simp; omega
    have e2 : ((o.kids.length : Int) == 0) = o.kids.isEmpty := by cases o.kids <;> simp; omega
    rw [e1, e2]
  have e1 : ((o.keys.length : Int) == 0) = o.keys.isEmpty := by cases o.keys <;> simp; omega
  unfold usesV usesB
  simp only [hz, e1]
theorem fits_eq (o : Ob) : fitsV o.kind o.n o.g = fitsB o := rfl
theorem longB_le (k : Int) : longB k ≤ 1048576 := by unfold longB; split <;> (try split) <;> omega
/-- The first reason among the kids ahead of the k-th. -/
theorem firstBad_snoc {l : List Int} {x : Int} (h : ∀ y ∈ l, y = 0) (hx : x ≠ 0) (r : List Int) : firstBad (l ++ x :: r) = x := by
  unfold firstBad
  rw [List.find?_append, List.find?_eq_none.2 (fun y hy => by simp [h y hy])]
  simp [hx]
def CheckC (S : Nat → Prop) (n : Nat) : Prop := ∀ (d : Nat) (w : World) (cs : List Value) (o : Ob), ObjAt S d w cs o → smallO d o → (∀ b, S b → b < w.heap.size) →
  Calls Tryz.prog 30 #[.agg cs.toArray, .int .i64 (25 - (n : Int))] w fun e w' => e = .returned (.int .i64 (checkB n o)) ∧ Below w.heap.size w w'
set_option maxHeartbeats 1000000 in
theorem check_zero (S : Nat → Prop) : CheckC S 0 := by
  intro d w cs o h _ _
  obtain ⟨p1, c1, p2, c2, rfl⟩ := h.form2
  unfold objCells
  go_enter Tryz.func30, Tryz.ntmps30
  go_wp2
  go_ret
  exact ⟨rfl, (by repeat' (first | (with_reducible exact Below.refl _ _) | (with_reducible refine Below.drew ?_) | (with_reducible refine belowDrewN ?_ _) | (with_reducible refine belowIter ?_ ?_ _ _) | (with_reducible refine Below.setCell ?_ ?_ _) | (with_reducible refine Below.alloc ?_ ?_ _) | (with_reducible refine Below.trans ?_ (Below.mono hb4 ?_)) | (with_reducible refine Below.trans ?_ (Below.mono hb3 ?_)) | (with_reducible refine Below.trans ?_ (Below.mono hb2 ?_)) | (with_reducible refine Below.trans ?_ (Below.mono hb1 ?_)) | (with_reducible refine Below.trans ?_ (Below.mono hbr ?_)) | (with_reducible refine Below.trans ?_ (Below.mono hb ?_)) | (simp; done) | (simp; omega) | omega))⟩
set_option maxHeartbeats 2000000 in
theorem check_step (S : Nat → Prop) (n : Nat) (hn : n < 24) (IH : CheckC S n) : CheckC S (n + 1) := by
  intro d w cs o hO hsm hS
  cases d with
  | zero => exact hO.elim
  | succ d =>
  obtain ⟨kv, dv, rfl, hK, hR0⟩ := hO
  have hR : RowAt S d w dv o.kids := hR0
  clear hR0
  obtain ⟨m1, m2, m3, m4, m5⟩ := hsm
  have a1 : ∃ p c, kv = .slice p o.keys.length c := by
    rcases hK with ⟨e, p, c, h⟩ | ⟨b, o, c, h, _⟩
    · exact ⟨_, _, by rw [e]; exact h⟩
    · exact ⟨_, _, h⟩
  have a2 : ∃ p c, dv = .slice p o.kids.length c := by
    rcases hR with ⟨e, p, c, h⟩ | ⟨b, o, c, h, _⟩
    · exact ⟨_, _, by rw [e]; exact h⟩
    · exact ⟨_, _, h⟩
  obtain ⟨p1, c1, rfl⟩ := a1
  obtain ⟨p2, c2, rfl⟩ := a2
  have HU := Lib.hid (fun W => uses_in o.kind o.n o.g o.s p1 p2 o.keys.length c1 o.kids.length c2 W)
  rw [uses_eq] at HU
  have HFI := Lib.hid (fun W => fits_in o.kind o.n o.g o.s p1 p2 o.keys.length c1 o.kids.length c2 W)
  rw [fits_eq] at HFI
  have HLO := Lib.hid (fun W => long_in o.kind W)
  have HKE := Lib.hid (fun W (hW : Below w.heap.size w W) => keys_in S d o _ _ W (hK.kept (fun b h => hW.block b (hS b h))) (hR.kept (fun b h => hW.block b (hS b h))) (fun b h => Nat.lt_of_lt_of_le (hS b h) hW.size) m1 m4 m3)
  have HRW := Lib.hid (And.intro hR (And.intro m5 hS))
  obtain ⟨C, hC⟩ : ∃ C, checkB (n + 1) o = C := ⟨_, rfl⟩
  rw [hC]
  unfold checkB at hC
  obtain ⟨D, hD⟩ : ∃ D : Int, 25 - ((n + 1 : Nat) : Int) = D := ⟨_, rfl⟩
  rw [hD]
  have hD1 : 1 ≤ D := by omega
  have hD2 : D ≤ 24 := by omega
  have hDn : D + 1 = 25 - (n : Int) := by omega
  obtain ⟨K, hk0⟩ : ∃ K, o.kind = K := ⟨_, rfl⟩
  obtain ⟨nk, hnk⟩ : ∃ nk, o.kids.length = nk := ⟨_, rfl⟩
  obtain ⟨LG, hLG⟩ : ∃ LG, longB K = LG := ⟨_, rfl⟩
  obtain ⟨ss, hss⟩ : ∃ ss : ByteArray, ss = ⟨o.s.toArray⟩ := ⟨_, rfl⟩
  have hns : o.s.length = ss.size := by rw [hss]; rfl
  have hd24 : decide (24 < D) = false := by simp; omega
  have hn23 : (n != 23) = decide (1 < D) := by
    rw [Bool.eq_iff_iff]; simp; omega
  rw [hn23] at hC
  unfold objCells
  rw [hk0] at hC HU HFI HLO HKE
  rw [hk0]
  rw [hLG] at hC HLO
  rw [hns] at hC m3
  rw [hnk] at hC HU HFI HKE HRW m2
  rw [hnk]
  rw [← hss] at HU HFI HKE
  rw [← hss]
  have HNK := Lib.hid (And.intro hnk hk0)
  have HDN := Lib.hid hDn
  have hLGb : LG ≤ 1048576 := hLG ▸ longB_le K
  clear hK hR hS m1 m4 m5 hD hk0 hnk hns hLG hss hn23 hDn
  cases hq1 : usesB o
  · rw [hq1] at HU hC
    have HC := Lib.hid hC
    clear hC hq1
    go_enter Tryz.func30, Tryz.ntmps30
    go_wp2_with fail
    refine (HU.out _).mono ?_
    rintro e w1 ⟨rfl, hb1⟩
    obtain ⟨hc1, hf1⟩ := bcell hb1
    have hz1 := hb1.size
    simp at hz1
    go_wp2
    go_ret
    exact ⟨ret_int (by rw [← HC.out]; rfl), (by repeat' (first | (with_reducible exact Below.refl _ _) | (with_reducible refine Below.drew ?_) | (with_reducible refine belowDrewN ?_ _) | (with_reducible refine belowIter ?_ ?_ _ _) | (with_reducible refine Below.setCell ?_ ?_ _) | (with_reducible refine Below.alloc ?_ ?_ _) | (with_reducible refine Below.trans ?_ (Below.mono hb4 ?_)) | (with_reducible refine Below.trans ?_ (Below.mono hb3 ?_)) | (with_reducible refine Below.trans ?_ (Below.mono hb2 ?_)) | (with_reducible refine Below.trans ?_ (Below.mono hb1 ?_)) | (with_reducible refine Below.trans ?_ (Below.mono hbr ?_)) | (with_reducible refine Below.trans ?_ (Below.mono hb ?_)) | (simp; done) | (simp; omega) | omega))⟩
  rw [hq1] at HU hC
  cases hq2 : (K == 9 && decide (1 < D))
  · rw [hq2] at hC
    by_cases hq9 : K = 9
    · have hD3 : ¬ 1 < D := by simp [hq9] at hq2; omega
      have hD4 : D = 1 := by omega
      subst hD4
      subst hq9
      clear hq1 hq2
      go_enter Tryz.func30, Tryz.ntmps30
      go_wp2_with fail
      refine (HU.out _).mono ?_
      rintro e w1 ⟨rfl, hb1⟩
      obtain ⟨hc1, hf1⟩ := bcell hb1
      have hz1 := hb1.size
      simp at hz1
      cases hq3 : fitsB o
      · rw [hq3] at hC HFI
        have HC := Lib.hid hC
        clear hC hq3
        go_wp2_with fail
        refine (HFI.out _).mono ?_
        rintro e w2 ⟨rfl, hb2⟩
        go_wp2
        go_ret
        exact ⟨ret_int (by rw [← HC.out]; rfl), (by repeat' (first | (with_reducible exact Below.refl _ _) | (with_reducible refine Below.drew ?_) | (with_reducible refine belowDrewN ?_ _) | (with_reducible refine belowIter ?_ ?_ _ _) | (with_reducible refine Below.setCell ?_ ?_ _) | (with_reducible refine Below.alloc ?_ ?_ _) | (with_reducible refine Below.trans ?_ (Below.mono hb4 ?_)) | (with_reducible refine Below.trans ?_ (Below.mono hb3 ?_)) | (with_reducible refine Below.trans ?_ (Below.mono hb2 ?_)) | (with_reducible refine Below.trans ?_ (Below.mono hb1 ?_)) | (with_reducible refine Below.trans ?_ (Below.mono hbr ?_)) | (with_reducible refine Below.trans ?_ (Below.mono hb ?_)) | (simp; done) | (simp; omega) | omega))⟩
      rw [hq3] at hC HFI
      clear hq3
      go_wp2_with fail
      refine (HFI.out _).mono ?_
      rintro e w2 ⟨rfl, hb2⟩
      obtain ⟨hc2, hf2⟩ := bcell hb2
      have hz2 := hb2.size
      have q0 : w2.cell? ⟨w.heap.size, 0, none⟩ = some (.int .i64 9) := by rw [hc2 _ _ (by omega), hc1 _ _ (by simp)]; simp [go_sem]
      have q3 : w2.cell? ⟨w.heap.size, 3, none⟩ = some (.string ss) := by rw [hc2 _ _ (by omega), hc1 _ _ (by simp)]; simp [go_sem]
      have q1 : w2.cell? ⟨w.heap.size, 1, none⟩ = some (.int .i64 o.n) := by rw [hc2 _ _ (by omega), hc1 _ _ (by simp)]; simp [go_sem]
      have q2 : w2.cell? ⟨w.heap.size, 2, none⟩ = some (.int .i64 o.g) := by rw [hc2 _ _ (by omega), hc1 _ _ (by simp)]; simp [go_sem]
      have q4 : w2.cell? ⟨w.heap.size, 4, none⟩ = some (.slice p1 o.keys.length c1) := by rw [hc2 _ _ (by omega), hc1 _ _ (by simp)]; simp [go_sem]
      have q5 : w2.cell? ⟨w.heap.size, 5, none⟩ = some (.slice p2 nk c2) := by rw [hc2 _ _ (by omega), hc1 _ _ (by simp)]; simp [go_sem]
      have hbw2 : Below w.heap.size w w2 := (by repeat' (first | (with_reducible exact Below.refl _ _) | (with_reducible refine Below.drew ?_) | (with_reducible refine belowDrewN ?_ _) | (with_reducible refine belowIter ?_ ?_ _ _) | (with_reducible refine Below.setCell ?_ ?_ _) | (with_reducible refine Below.alloc ?_ ?_ _) | (with_reducible refine Below.trans ?_ (Below.mono hb4 ?_)) | (with_reducible refine Below.trans ?_ (Below.mono hb3 ?_)) | (with_reducible refine Below.trans ?_ (Below.mono hb2 ?_)) | (with_reducible refine Below.trans ?_ (Below.mono hb1 ?_)) | (with_reducible refine Below.trans ?_ (Below.mono hbr ?_)) | (with_reducible refine Below.trans ?_ (Below.mono hb ?_)) | (simp; done) | (simp; omega) | omega))
      clear hc1 hf1 hc2 hf2
      by_cases hq4 : LG < ss.size
      · rw [if_pos hq4] at hC
        have HC := Lib.hid hC
        clear hC
        go_wp2
        go_quiet ((go_at_call 61; exact Calls.quiet_of_same (HLO.out _)))
        go_wp2
        go_ret
        exact ⟨ret_int (by rw [← HC.out]; rfl), (by repeat' (first | (with_reducible exact Below.refl _ _) | (with_reducible refine Below.drew ?_) | (with_reducible refine belowDrewN ?_ _) | (with_reducible refine belowIter ?_ ?_ _ _) | (with_reducible refine Below.setCell ?_ ?_ _) | (with_reducible refine Below.alloc ?_ ?_ _) | (with_reducible refine Below.trans ?_ (Below.mono hb4 ?_)) | (with_reducible refine Below.trans ?_ (Below.mono hb3 ?_)) | (with_reducible refine Below.trans ?_ (Below.mono hb2 ?_)) | (with_reducible refine Below.trans ?_ (Below.mono hb1 ?_)) | (with_reducible refine Below.trans ?_ (Below.mono hbr ?_)) | (with_reducible refine Below.trans ?_ (Below.mono hb ?_)) | (simp; done) | (simp; omega) | omega))⟩
      rw [if_neg hq4] at hC
      have hz12 : w.heap.size + 1 ≤ w2.heap.size := by omega
      by_cases hq5 : 8191 < nk
      · rw [if_pos hq5] at hC
        have HC := Lib.hid hC
        clear hC
        go_wp2
        go_quiet ((go_at_call 61; exact Calls.quiet_of_same (HLO.out _)))
        go_wp2
        go_ret
        exact ⟨ret_int (by rw [← HC.out]; rfl), (by repeat' (first | (with_reducible exact Below.refl _ _) | (with_reducible refine Below.drew ?_) | (with_reducible refine belowDrewN ?_ _) | (with_reducible refine belowIter ?_ ?_ _ _) | (with_reducible refine Below.setCell ?_ ?_ _) | (with_reducible refine Below.alloc ?_ ?_ _) | (with_reducible refine Below.trans ?_ (Below.mono hb4 ?_)) | (with_reducible refine Below.trans ?_ (Below.mono hb3 ?_)) | (with_reducible refine Below.trans ?_ (Below.mono hb2 ?_)) | (with_reducible refine Below.trans ?_ (Below.mono hb1 ?_)) | (with_reducible refine Below.trans ?_ (Below.mono hbr ?_)) | (with_reducible refine Below.trans ?_ (Below.mono hb ?_)) | (simp; done) | (simp; omega) | omega))⟩
      rw [if_neg hq5] at hC
      cases hq6 : keysB o
      · rw [hq6] at HKE hC
        have HC := Lib.hid hC
        clear hC hq6
        go_wp2
        go_quiet ((go_at_call 61; exact Calls.quiet_of_same (HLO.out _)))
        go_wp2_with fail
        refine (HKE.out _ (by repeat' (first | (with_reducible exact Below.refl _ _) | (with_reducible refine Below.drew ?_) | (with_reducible refine belowDrewN ?_ _) | (with_reducible refine belowIter ?_ ?_ _ _) | (with_reducible refine Below.setCell ?_ ?_ _) | (with_reducible refine Below.alloc ?_ ?_ _) | (with_reducible refine Below.trans ?_ (Below.mono hb4 ?_)) | (with_reducible refine Below.trans ?_ (Below.mono hb3 ?_)) | (with_reducible refine Below.trans ?_ (Below.mono hb2 ?_)) | (with_reducible refine Below.trans ?_ (Below.mono hb1 ?_)) | (with_reducible refine Below.trans ?_ (Below.mono hbr ?_)) | (with_reducible refine Below.trans ?_ (Below.mono hb ?_)) | (simp; done) | (simp; omega) | omega))).mono ?_
        rintro e w3 ⟨rfl, hb3⟩
        go_wp2
        go_ret
        exact ⟨ret_int (by rw [← HC.out]; rfl), (by repeat' (first | (with_reducible exact Below.refl _ _) | (with_reducible refine Below.drew ?_) | (with_reducible refine belowDrewN ?_ _) | (with_reducible refine belowIter ?_ ?_ _ _) | (with_reducible refine Below.setCell ?_ ?_ _) | (with_reducible refine Below.alloc ?_ ?_ _) | (with_reducible refine Below.trans ?_ (Below.mono hb4 ?_)) | (with_reducible refine Below.trans ?_ (Below.mono hb3 ?_)) | (with_reducible refine Below.trans ?_ (Below.mono hb2 ?_)) | (with_reducible refine Below.trans ?_ (Below.mono hb1 ?_)) | (with_reducible refine Below.trans ?_ (Below.mono hbr ?_)) | (with_reducible refine Below.trans ?_ (Below.mono hb ?_)) | (simp; done) | (simp; omega) | omega))⟩
      rw [hq6] at HKE hC
      have HC := Lib.hid hC
      clear hC hq6
      go_wp2
      go_quiet ((go_at_call 61; exact Calls.quiet_of_same (HLO.out _)))
      go_wp2_with fail
      refine (HKE.out _ (by repeat' (first | (with_reducible exact Below.refl _ _) | (with_reducible refine Below.drew ?_) | (with_reducible refine belowDrewN ?_ _) | (with_reducible refine belowIter ?_ ?_ _ _) | (with_reducible refine Below.setCell ?_ ?_ _) | (with_reducible refine Below.alloc ?_ ?_ _) | (with_reducible refine Below.trans ?_ (Below.mono hb4 ?_)) | (with_reducible refine Below.trans ?_ (Below.mono hb3 ?_)) | (with_reducible refine Below.trans ?_ (Below.mono hb2 ?_)) | (with_reducible refine Below.trans ?_ (Below.mono hb1 ?_)) | (with_reducible refine Below.trans ?_ (Below.mono hbr ?_)) | (with_reducible refine Below.trans ?_ (Below.mono hb ?_)) | (simp; done) | (simp; omega) | omega))).mono ?_
      rintro e w3 ⟨rfl, hb3⟩
      obtain ⟨hc3, hf3⟩ := bcell hb3
      have hz3 := hb3.size
      have r5 : w3.cell? ⟨w.heap.size, 5, none⟩ = some (.slice p2 nk c2) := (hc3 _ _ (by simp; omega)).trans (by simpa using q5)
      clear hc3 hf3
      have hbw3 : Below w.heap.size w w3 := (by repeat' (first | (with_reducible exact Below.refl _ _) | (with_reducible refine Below.drew ?_) | (with_reducible refine belowDrewN ?_ _) | (with_reducible refine belowIter ?_ ?_ _ _) | (with_reducible refine Below.setCell ?_ ?_ _) | (with_reducible refine Below.alloc ?_ ?_ _) | (with_reducible refine Below.trans ?_ (Below.mono hb4 ?_)) | (with_reducible refine Below.trans ?_ (Below.mono hb3 ?_)) | (with_reducible refine Below.trans ?_ (Below.mono hb2 ?_)) | (with_reducible refine Below.trans ?_ (Below.mono hb1 ?_)) | (with_reducible refine Below.trans ?_ (Below.mono hbr ?_)) | (with_reducible refine Below.trans ?_ (Below.mono hb ?_)) | (simp; done) | (simp; omega) | omega))
      have hq8 : decide (8191 < (nk : Int)) = false := by simp; omega
      go_wp2
      clear r5
      go_loopw [42] (fun i wr => ∃ k : Nat, k ≤ nk ∧ i = .int .i64 k ∧ Below w.heap.size w wr ∧ Hid (∀ x ∈ o.kids.take k, checkB n x = 0)) (fun i _ => nk - (intOf i).toNat)
      case atStart => exact ⟨0, Nat.zero_le _, rfl, (by repeat' (first | (with_reducible exact Below.refl _ _) | (with_reducible refine Below.drew ?_) | (with_reducible refine belowDrewN ?_ _) | (with_reducible refine belowIter ?_ ?_ _ _) | (with_reducible refine Below.setCell ?_ ?_ _) | (with_reducible refine Below.alloc ?_ ?_ _) | (with_reducible refine Below.trans ?_ (Below.mono hb4 ?_)) | (with_reducible refine Below.trans ?_ (Below.mono hb3 ?_)) | (with_reducible refine Below.trans ?_ (Below.mono hb2 ?_)) | (with_reducible refine Below.trans ?_ (Below.mono hb1 ?_)) | (with_reducible refine Below.trans ?_ (Below.mono hbr ?_)) | (with_reducible refine Below.trans ?_ (Below.mono hb ?_)) | (simp; done) | (simp; omega) | omega)), Lib.hid (by simp)⟩
      case round =>
        obtain ⟨k, hk, rfl, hb, HA⟩ := hrel
        by_cases hlt : k < nk
        · have hRw : RowAt S d wr (.slice p2 nk c2) o.kids := by
            have := HRW.out.1.kept (fun b h => hb.block b (HRW.out.2.2 b h)); exact this
          obtain ⟨b, off, rfl⟩ : ∃ b off, p2 = some ⟨b, off, none⟩ := by
            rcases hRw with ⟨e, _⟩ | ⟨b, off, c, e, _⟩
            · have := HNK.out.1; rw [e] at this; simp at this; omega
            · cases e; exact ⟨_, _, rfl⟩
          obtain ⟨x, p3, n3, e3, p4, n4, e4, hx, hxm, s1, O1, f0, f1, f2, f3, f4, f5⟩ := row_kid hRw HNK.out.1 k hlt
          have hS2 : ∀ b, S b → b < wr.heap.size := fun b h => Nat.lt_of_lt_of_le (HRW.out.2.2 b h) hb.size
          have HI := Lib.hid (fun (W : World) (hW : Below wr.heap.size wr W) => HDN.out ▸ IH d W _ x (O1.kept (fun b h => hW.block b (hS2 b h)) d) (HRW.out.2.1 x hxm) (fun b h => Nat.lt_of_lt_of_le (hS2 b h) hW.size))
          have htk : o.kids.take (k + 1) = o.kids.take k ++ [x] := by
            have hk' : k < o.kids.length := by rw [HNK.out.1]; exact hlt
            rw [List.take_succ_eq_append_getElem hk', ← hx]; simp [List.getD, hk']
          have hdr : o.kids = o.kids.take k ++ x :: o.kids.drop (k + 1) := by
            have hk' : k < o.kids.length := by rw [HNK.out.1]; exact hlt
            conv => lhs; rw [← List.take_append_drop k o.kids]
            rw [List.drop_eq_getElem_cons hk', ← hx]; simp [List.getD, hk']
          have HT := Lib.hid (And.intro htk hdr)
          unfold objCells at HI
          obtain ⟨y, hy⟩ : ∃ y, checkB n x = y := ⟨_, rfl⟩
          rw [hy] at HI
          have HY := Lib.hid hy
          have L1 := hS2 b s1
          have hszr := hb.size
          clear hRw hx hxm O1 hS2 htk hdr hy
          cases hy0 : (y != 0)
          · have HY0 := Lib.hid hy0
            go_wp2_with fail
            refine (HI.out _ (by repeat' (first | (with_reducible exact Below.refl _ _) | (with_reducible refine Below.drew ?_) | (with_reducible refine belowDrewN ?_ _) | (with_reducible refine belowIter ?_ ?_ _ _) | (with_reducible refine Below.setCell ?_ ?_ _) | (with_reducible refine Below.alloc ?_ ?_ _) | (with_reducible refine Below.trans ?_ (Below.mono hb4 ?_)) | (with_reducible refine Below.trans ?_ (Below.mono hb3 ?_)) | (with_reducible refine Below.trans ?_ (Below.mono hb2 ?_)) | (with_reducible refine Below.trans ?_ (Below.mono hb1 ?_)) | (with_reducible refine Below.trans ?_ (Below.mono hbr ?_)) | (with_reducible refine Below.trans ?_ (Below.mono hb ?_)) | (simp; done) | (simp; omega) | omega))).mono ?_
            rintro e w4 ⟨rfl, hb4⟩
            go_wp2
            go_roundw
            case rel => exact ⟨k + 1, by omega, by go_num, (by repeat' (first | (with_reducible exact Below.refl _ _) | (with_reducible refine Below.drew ?_) | (with_reducible refine belowDrewN ?_ _) | (with_reducible refine belowIter ?_ ?_ _ _) | (with_reducible refine Below.setCell ?_ ?_ _) | (with_reducible refine Below.alloc ?_ ?_ _) | (with_reducible refine Below.trans ?_ (Below.mono hb4 ?_)) | (with_reducible refine Below.trans ?_ (Below.mono hb3 ?_)) | (with_reducible refine Below.trans ?_ (Below.mono hb2 ?_)) | (with_reducible refine Below.trans ?_ (Below.mono hb1 ?_)) | (with_reducible refine Below.trans ?_ (Below.mono hbr ?_)) | (with_reducible refine Below.trans ?_ (Below.mono hb ?_)) | (simp; done) | (simp; omega) | omega)), Lib.hid (fun z hz => by
              rw [HT.out.1, List.mem_append] at hz
              rcases hz with hz | hz
              · exact HA.out z hz
              · simp only [List.mem_singleton] at hz; subst hz; rw [HY.out]; simpa using HY0.out)⟩
            case measure => simp [intOf]; omega
          · have HY0 := Lib.hid hy0
            have HR1 := Lib.hid (show firstBad (o.kids.map (checkB n)) = y by
              rw [HT.out.2, List.map_append, List.map_cons, HY.out]
              exact firstBad_snoc (fun z hz => by obtain ⟨u, hu, rfl⟩ := List.mem_map.1 hz; exact HA.out u hu) (by simpa using HY0.out) _)
            go_wp2_with fail
            refine (HI.out _ (by repeat' (first | (with_reducible exact Below.refl _ _) | (with_reducible refine Below.drew ?_) | (with_reducible refine belowDrewN ?_ _) | (with_reducible refine belowIter ?_ ?_ _ _) | (with_reducible refine Below.setCell ?_ ?_ _) | (with_reducible refine Below.alloc ?_ ?_ _) | (with_reducible refine Below.trans ?_ (Below.mono hb4 ?_)) | (with_reducible refine Below.trans ?_ (Below.mono hb3 ?_)) | (with_reducible refine Below.trans ?_ (Below.mono hb2 ?_)) | (with_reducible refine Below.trans ?_ (Below.mono hb1 ?_)) | (with_reducible refine Below.trans ?_ (Below.mono hbr ?_)) | (with_reducible refine Below.trans ?_ (Below.mono hb ?_)) | (simp; done) | (simp; omega) | omega))).mono ?_
            rintro e w4 ⟨rfl, hb4⟩
            go_wp2
            go_ret
            exact ⟨ret_int (by rw [← HC.out, ← HR1.out]; rfl), (by repeat' (first | (with_reducible exact Below.refl _ _) | (with_reducible refine Below.drew ?_) | (with_reducible refine belowDrewN ?_ _) | (with_reducible refine belowIter ?_ ?_ _ _) | (with_reducible refine Below.setCell ?_ ?_ _) | (with_reducible refine Below.alloc ?_ ?_ _) | (with_reducible refine Below.trans ?_ (Below.mono hb4 ?_)) | (with_reducible refine Below.trans ?_ (Below.mono hb3 ?_)) | (with_reducible refine Below.trans ?_ (Below.mono hb2 ?_)) | (with_reducible refine Below.trans ?_ (Below.mono hb1 ?_)) | (with_reducible refine Below.trans ?_ (Below.mono hbr ?_)) | (with_reducible refine Below.trans ?_ (Below.mono hb ?_)) | (simp; done) | (simp; omega) | omega))⟩
        · have HR1 := Lib.hid (show firstBad (o.kids.map (checkB n)) = 0 by
            have hkn : k = nk := by omega
            refine firstBad_zero fun z hz => ?_
            obtain ⟨u, hu, rfl⟩ := List.mem_map.1 hz
            refine HA.out u ?_
            rw [List.take_of_length_le (by rw [HNK.out.1]; omega)]; exact hu)
          go_wp2
          go_ret
          exact ⟨ret_int (by rw [← HC.out, ← HR1.out]; rfl), (by repeat' (first | (with_reducible exact Below.refl _ _) | (with_reducible refine Below.drew ?_) | (with_reducible refine belowDrewN ?_ _) | (with_reducible refine belowIter ?_ ?_ _ _) | (with_reducible refine Below.setCell ?_ ?_ _) | (with_reducible refine Below.alloc ?_ ?_ _) | (with_reducible refine Below.trans ?_ (Below.mono hb4 ?_)) | (with_reducible refine Below.trans ?_ (Below.mono hb3 ?_)) | (with_reducible refine Below.trans ?_ (Below.mono hb2 ?_)) | (with_reducible refine Below.trans ?_ (Below.mono hb1 ?_)) | (with_reducible refine Below.trans ?_ (Below.mono hbr ?_)) | (with_reducible refine Below.trans ?_ (Below.mono hb ?_)) | (simp; done) | (simp; omega) | omega))⟩
    · have e9 : (K == 9) = false := by simpa using hq9
      clear hq1 hq2 hq9
      go_enter Tryz.func30, Tryz.ntmps30
      go_wp2_with fail
      refine (HU.out _).mono ?_
      rintro e w1 ⟨rfl, hb1⟩
      obtain ⟨hc1, hf1⟩ := bcell hb1
      have hz1 := hb1.size
      simp at hz1
      cases hq3 : fitsB o
      · rw [hq3] at hC HFI
        have HC := Lib.hid hC
        clear hC hq3
        go_wp2_with fail
        refine (HFI.out _).mono ?_
        rintro e w2 ⟨rfl, hb2⟩
        go_wp2
        go_ret
        exact ⟨ret_int (by rw [← HC.out]; rfl), (by repeat' (first | (with_reducible exact Below.refl _ _) | (with_reducible refine Below.drew ?_) | (with_reducible refine belowDrewN ?_ _) | (with_reducible refine belowIter ?_ ?_ _ _) | (with_reducible refine Below.setCell ?_ ?_ _) | (with_reducible refine Below.alloc ?_ ?_ _) | (with_reducible refine Below.trans ?_ (Below.mono hb4 ?_)) | (with_reducible refine Below.trans ?_ (Below.mono hb3 ?_)) | (with_reducible refine Below.trans ?_ (Below.mono hb2 ?_)) | (with_reducible refine Below.trans ?_ (Below.mono hb1 ?_)) | (with_reducible refine Below.trans ?_ (Below.mono hbr ?_)) | (with_reducible refine Below.trans ?_ (Below.mono hb ?_)) | (simp; done) | (simp; omega) | omega))⟩
      rw [hq3] at hC HFI
      clear hq3
      go_wp2_with fail
      refine (HFI.out _).mono ?_
      rintro e w2 ⟨rfl, hb2⟩
      obtain ⟨hc2, hf2⟩ := bcell hb2
      have hz2 := hb2.size
      have q0 : w2.cell? ⟨w.heap.size, 0, none⟩ = some (.int .i64 K) := by rw [hc2 _ _ (by omega), hc1 _ _ (by simp)]; simp [go_sem]
      have q3 : w2.cell? ⟨w.heap.size, 3, none⟩ = some (.string ss) := by rw [hc2 _ _ (by omega), hc1 _ _ (by simp)]; simp [go_sem]
      have q1 : w2.cell? ⟨w.heap.size, 1, none⟩ = some (.int .i64 o.n) := by rw [hc2 _ _ (by omega), hc1 _ _ (by simp)]; simp [go_sem]
      have q2 : w2.cell? ⟨w.heap.size, 2, none⟩ = some (.int .i64 o.g) := by rw [hc2 _ _ (by omega), hc1 _ _ (by simp)]; simp [go_sem]
      have q4 : w2.cell? ⟨w.heap.size, 4, none⟩ = some (.slice p1 o.keys.length c1) := by rw [hc2 _ _ (by omega), hc1 _ _ (by simp)]; simp [go_sem]
      have q5 : w2.cell? ⟨w.heap.size, 5, none⟩ = some (.slice p2 nk c2) := by rw [hc2 _ _ (by omega), hc1 _ _ (by simp)]; simp [go_sem]
      have hbw2 : Below w.heap.size w w2 := (by repeat' (first | (with_reducible exact Below.refl _ _) | (with_reducible refine Below.drew ?_) | (with_reducible refine belowDrewN ?_ _) | (with_reducible refine belowIter ?_ ?_ _ _) | (with_reducible refine Below.setCell ?_ ?_ _) | (with_reducible refine Below.alloc ?_ ?_ _) | (with_reducible refine Below.trans ?_ (Below.mono hb4 ?_)) | (with_reducible refine Below.trans ?_ (Below.mono hb3 ?_)) | (with_reducible refine Below.trans ?_ (Below.mono hb2 ?_)) | (with_reducible refine Below.trans ?_ (Below.mono hb1 ?_)) | (with_reducible refine Below.trans ?_ (Below.mono hbr ?_)) | (with_reducible refine Below.trans ?_ (Below.mono hb ?_)) | (simp; done) | (simp; omega) | omega))
      clear hc1 hf1 hc2 hf2
      by_cases hq4 : LG < ss.size
      · rw [if_pos hq4] at hC
        have HC := Lib.hid hC
        clear hC
        go_wp2
        go_quiet ((go_at_call 61; exact Calls.quiet_of_same (HLO.out _)))
        go_wp2
        go_ret
        exact ⟨ret_int (by rw [← HC.out]; rfl), (by repeat' (first | (with_reducible exact Below.refl _ _) | (with_reducible refine Below.drew ?_) | (with_reducible refine belowDrewN ?_ _) | (with_reducible refine belowIter ?_ ?_ _ _) | (with_reducible refine Below.setCell ?_ ?_ _) | (with_reducible refine Below.alloc ?_ ?_ _) | (with_reducible refine Below.trans ?_ (Below.mono hb4 ?_)) | (with_reducible refine Below.trans ?_ (Below.mono hb3 ?_)) | (with_reducible refine Below.trans ?_ (Below.mono hb2 ?_)) | (with_reducible refine Below.trans ?_ (Below.mono hb1 ?_)) | (with_reducible refine Below.trans ?_ (Below.mono hbr ?_)) | (with_reducible refine Below.trans ?_ (Below.mono hb ?_)) | (simp; done) | (simp; omega) | omega))⟩
      rw [if_neg hq4] at hC
      have hz12 : w.heap.size + 1 ≤ w2.heap.size := by omega
      by_cases hq5 : 8191 < nk
      · rw [if_pos hq5] at hC
        have HC := Lib.hid hC
        clear hC
        go_wp2
        go_quiet ((go_at_call 61; exact Calls.quiet_of_same (HLO.out _)))
        go_wp2
        go_ret
        exact ⟨ret_int (by rw [← HC.out]; rfl), (by repeat' (first | (with_reducible exact Below.refl _ _) | (with_reducible refine Below.drew ?_) | (with_reducible refine belowDrewN ?_ _) | (with_reducible refine belowIter ?_ ?_ _ _) | (with_reducible refine Below.setCell ?_ ?_ _) | (with_reducible refine Below.alloc ?_ ?_ _) | (with_reducible refine Below.trans ?_ (Below.mono hb4 ?_)) | (with_reducible refine Below.trans ?_ (Below.mono hb3 ?_)) | (with_reducible refine Below.trans ?_ (Below.mono hb2 ?_)) | (with_reducible refine Below.trans ?_ (Below.mono hb1 ?_)) | (with_reducible refine Below.trans ?_ (Below.mono hbr ?_)) | (with_reducible refine Below.trans ?_ (Below.mono hb ?_)) | (simp; done) | (simp; omega) | omega))⟩
      rw [if_neg hq5] at hC
      cases hq6 : keysB o
      · rw [hq6] at HKE hC
        have HC := Lib.hid hC
        clear hC hq6
        go_wp2
        go_quiet ((go_at_call 61; exact Calls.quiet_of_same (HLO.out _)))
        go_wp2_with fail
        refine (HKE.out _ (by repeat' (first | (with_reducible exact Below.refl _ _) | (with_reducible refine Below.drew ?_) | (with_reducible refine belowDrewN ?_ _) | (with_reducible refine belowIter ?_ ?_ _ _) | (with_reducible refine Below.setCell ?_ ?_ _) | (with_reducible refine Below.alloc ?_ ?_ _) | (with_reducible refine Below.trans ?_ (Below.mono hb4 ?_)) | (with_reducible refine Below.trans ?_ (Below.mono hb3 ?_)) | (with_reducible refine Below.trans ?_ (Below.mono hb2 ?_)) | (with_reducible refine Below.trans ?_ (Below.mono hb1 ?_)) | (with_reducible refine Below.trans ?_ (Below.mono hbr ?_)) | (with_reducible refine Below.trans ?_ (Below.mono hb ?_)) | (simp; done) | (simp; omega) | omega))).mono ?_
        rintro e w3 ⟨rfl, hb3⟩
        go_wp2
        go_ret
        exact ⟨ret_int (by rw [← HC.out]; rfl), (by repeat' (first | (with_reducible exact Below.refl _ _) | (with_reducible refine Below.drew ?_) | (with_reducible refine belowDrewN ?_ _) | (with_reducible refine belowIter ?_ ?_ _ _) | (with_reducible refine Below.setCell ?_ ?_ _) | (with_reducible refine Below.alloc ?_ ?_ _) | (with_reducible refine Below.trans ?_ (Below.mono hb4 ?_)) | (with_reducible refine Below.trans ?_ (Below.mono hb3 ?_)) | (with_reducible refine Below.trans ?_ (Below.mono hb2 ?_)) | (with_reducible refine Below.trans ?_ (Below.mono hb1 ?_)) | (with_reducible refine Below.trans ?_ (Below.mono hbr ?_)) | (with_reducible refine Below.trans ?_ (Below.mono hb ?_)) | (simp; done) | (simp; omega) | omega))⟩
      rw [hq6] at HKE hC
      have HC := Lib.hid hC
      clear hC hq6
      go_wp2
      go_quiet ((go_at_call 61; exact Calls.quiet_of_same (HLO.out _)))
      go_wp2_with fail
      refine (HKE.out _ (by repeat' (first | (with_reducible exact Below.refl _ _) | (with_reducible refine Below.drew ?_) | (with_reducible refine belowDrewN ?_ _) | (with_reducible refine belowIter ?_ ?_ _ _) | (with_reducible refine Below.setCell ?_ ?_ _) | (with_reducible refine Below.alloc ?_ ?_ _) | (with_reducible refine Below.trans ?_ (Below.mono hb4 ?_)) | (with_reducible refine Below.trans ?_ (Below.mono hb3 ?_)) | (with_reducible refine Below.trans ?_ (Below.mono hb2 ?_)) | (with_reducible refine Below.trans ?_ (Below.mono hb1 ?_)) | (with_reducible refine Below.trans ?_ (Below.mono hbr ?_)) | (with_reducible refine Below.trans ?_ (Below.mono hb ?_)) | (simp; done) | (simp; omega) | omega))).mono ?_
      rintro e w3 ⟨rfl, hb3⟩
      obtain ⟨hc3, hf3⟩ := bcell hb3
      have hz3 := hb3.size
      have r5 : w3.cell? ⟨w.heap.size, 5, none⟩ = some (.slice p2 nk c2) := (hc3 _ _ (by simp; omega)).trans (by simpa using q5)
      clear hc3 hf3
      have hbw3 : Below w.heap.size w w3 := (by repeat' (first | (with_reducible exact Below.refl _ _) | (with_reducible refine Below.drew ?_) | (with_reducible refine belowDrewN ?_ _) | (with_reducible refine belowIter ?_ ?_ _ _) | (with_reducible refine Below.setCell ?_ ?_ _) | (with_reducible refine Below.alloc ?_ ?_ _) | (with_reducible refine Below.trans ?_ (Below.mono hb4 ?_)) | (with_reducible refine Below.trans ?_ (Below.mono hb3 ?_)) | (with_reducible refine Below.trans ?_ (Below.mono hb2 ?_)) | (with_reducible refine Below.trans ?_ (Below.mono hb1 ?_)) | (with_reducible refine Below.trans ?_ (Below.mono hbr ?_)) | (with_reducible refine Below.trans ?_ (Below.mono hb ?_)) | (simp; done) | (simp; omega) | omega))
      have hq8 : decide (8191 < (nk : Int)) = false := by simp; omega
      go_wp2
      clear r5
      go_loopw [42] (fun i wr => ∃ k : Nat, k ≤ nk ∧ i = .int .i64 k ∧ Below w.heap.size w wr ∧ Hid (∀ x ∈ o.kids.take k, checkB n x = 0)) (fun i _ => nk - (intOf i).toNat)
      case atStart => exact ⟨0, Nat.zero_le _, rfl, (by repeat' (first | (with_reducible exact Below.refl _ _) | (with_reducible refine Below.drew ?_) | (with_reducible refine belowDrewN ?_ _) | (with_reducible refine belowIter ?_ ?_ _ _) | (with_reducible refine Below.setCell ?_ ?_ _) | (with_reducible refine Below.alloc ?_ ?_ _) | (with_reducible refine Below.trans ?_ (Below.mono hb4 ?_)) | (with_reducible refine Below.trans ?_ (Below.mono hb3 ?_)) | (with_reducible refine Below.trans ?_ (Below.mono hb2 ?_)) | (with_reducible refine Below.trans ?_ (Below.mono hb1 ?_)) | (with_reducible refine Below.trans ?_ (Below.mono hbr ?_)) | (with_reducible refine Below.trans ?_ (Below.mono hb ?_)) | (simp; done) | (simp; omega) | omega)), Lib.hid (by simp)⟩
      case round =>
        obtain ⟨k, hk, rfl, hb, HA⟩ := hrel
        by_cases hlt : k < nk
        · have hRw : RowAt S d wr (.slice p2 nk c2) o.kids := by
            have := HRW.out.1.kept (fun b h => hb.block b (HRW.out.2.2 b h)); exact this
          obtain ⟨b, off, rfl⟩ : ∃ b off, p2 = some ⟨b, off, none⟩ := by
            rcases hRw with ⟨e, _⟩ | ⟨b, off, c, e, _⟩
            · have := HNK.out.1; rw [e] at this; simp at this; omega
            · cases e; exact ⟨_, _, rfl⟩
          obtain ⟨x, p3, n3, e3, p4, n4, e4, hx, hxm, s1, O1, f0, f1, f2, f3, f4, f5⟩ := row_kid hRw HNK.out.1 k hlt
          have hS2 : ∀ b, S b → b < wr.heap.size := fun b h => Nat.lt_of_lt_of_le (HRW.out.2.2 b h) hb.size
          have HI := Lib.hid (fun (W : World) (hW : Below wr.heap.size wr W) => HDN.out ▸ IH d W _ x (O1.kept (fun b h => hW.block b (hS2 b h)) d) (HRW.out.2.1 x hxm) (fun b h => Nat.lt_of_lt_of_le (hS2 b h) hW.size))
          have htk : o.kids.take (k + 1) = o.kids.take k ++ [x] := by
            have hk' : k < o.kids.length := by rw [HNK.out.1]; exact hlt
            rw [List.take_succ_eq_append_getElem hk', ← hx]; simp [List.getD, hk']
          have hdr : o.kids = o.kids.take k ++ x :: o.kids.drop (k + 1) := by
            have hk' : k < o.kids.length := by rw [HNK.out.1]; exact hlt
            conv => lhs; rw [← List.take_append_drop k o.kids]
            rw [List.drop_eq_getElem_cons hk', ← hx]; simp [List.getD, hk']
          have HT := Lib.hid (And.intro htk hdr)
          unfold objCells at HI
          obtain ⟨y, hy⟩ : ∃ y, checkB n x = y := ⟨_, rfl⟩
          rw [hy] at HI
          have HY := Lib.hid hy
          have L1 := hS2 b s1
          have hszr := hb.size
          clear hRw hx hxm O1 hS2 htk hdr hy
          cases hy0 : (y != 0)
          · have HY0 := Lib.hid hy0
            go_wp2_with fail
            refine (HI.out _ (by repeat' (first | (with_reducible exact Below.refl _ _) | (with_reducible refine Below.drew ?_) | (with_reducible refine belowDrewN ?_ _) | (with_reducible refine belowIter ?_ ?_ _ _) | (with_reducible refine Below.setCell ?_ ?_ _) | (with_reducible refine Below.alloc ?_ ?_ _) | (with_reducible refine Below.trans ?_ (Below.mono hb4 ?_)) | (with_reducible refine Below.trans ?_ (Below.mono hb3 ?_)) | (with_reducible refine Below.trans ?_ (Below.mono hb2 ?_)) | (with_reducible refine Below.trans ?_ (Below.mono hb1 ?_)) | (with_reducible refine Below.trans ?_ (Below.mono hbr ?_)) | (with_reducible refine Below.trans ?_ (Below.mono hb ?_)) | (simp; done) | (simp; omega) | omega))).mono ?_
            rintro e w4 ⟨rfl, hb4⟩
            go_wp2
            go_roundw
            case rel => exact ⟨k + 1, by omega, by go_num, (by repeat' (first | (with_reducible exact Below.refl _ _) | (with_reducible refine Below.drew ?_) | (with_reducible refine belowDrewN ?_ _) | (with_reducible refine belowIter ?_ ?_ _ _) | (with_reducible refine Below.setCell ?_ ?_ _) | (with_reducible refine Below.alloc ?_ ?_ _) | (with_reducible refine Below.trans ?_ (Below.mono hb4 ?_)) | (with_reducible refine Below.trans ?_ (Below.mono hb3 ?_)) | (with_reducible refine Below.trans ?_ (Below.mono hb2 ?_)) | (with_reducible refine Below.trans ?_ (Below.mono hb1 ?_)) | (with_reducible refine Below.trans ?_ (Below.mono hbr ?_)) | (with_reducible refine Below.trans ?_ (Below.mono hb ?_)) | (simp; done) | (simp; omega) | omega)), Lib.hid (fun z hz => by
              rw [HT.out.1, List.mem_append] at hz
              rcases hz with hz | hz
              · exact HA.out z hz
              · simp only [List.mem_singleton] at hz; subst hz; rw [HY.out]; simpa using HY0.out)⟩
            case measure => simp [intOf]; omega
          · have HY0 := Lib.hid hy0
            have HR1 := Lib.hid (show firstBad (o.kids.map (checkB n)) = y by
              rw [HT.out.2, List.map_append, List.map_cons, HY.out]
              exact firstBad_snoc (fun z hz => by obtain ⟨u, hu, rfl⟩ := List.mem_map.1 hz; exact HA.out u hu) (by simpa using HY0.out) _)
            go_wp2_with fail
            refine (HI.out _ (by repeat' (first | (with_reducible exact Below.refl _ _) | (with_reducible refine Below.drew ?_) | (with_reducible refine belowDrewN ?_ _) | (with_reducible refine belowIter ?_ ?_ _ _) | (with_reducible refine Below.setCell ?_ ?_ _) | (with_reducible refine Below.alloc ?_ ?_ _) | (with_reducible refine Below.trans ?_ (Below.mono hb4 ?_)) | (with_reducible refine Below.trans ?_ (Below.mono hb3 ?_)) | (with_reducible refine Below.trans ?_ (Below.mono hb2 ?_)) | (with_reducible refine Below.trans ?_ (Below.mono hb1 ?_)) | (with_reducible refine Below.trans ?_ (Below.mono hbr ?_)) | (with_reducible refine Below.trans ?_ (Below.mono hb ?_)) | (simp; done) | (simp; omega) | omega))).mono ?_
            rintro e w4 ⟨rfl, hb4⟩
            go_wp2
            go_ret
            exact ⟨ret_int (by rw [← HC.out, ← HR1.out]; rfl), (by repeat' (first | (with_reducible exact Below.refl _ _) | (with_reducible refine Below.drew ?_) | (with_reducible refine belowDrewN ?_ _) | (with_reducible refine belowIter ?_ ?_ _ _) | (with_reducible refine Below.setCell ?_ ?_ _) | (with_reducible refine Below.alloc ?_ ?_ _) | (with_reducible refine Below.trans ?_ (Below.mono hb4 ?_)) | (with_reducible refine Below.trans ?_ (Below.mono hb3 ?_)) | (with_reducible refine Below.trans ?_ (Below.mono hb2 ?_)) | (with_reducible refine Below.trans ?_ (Below.mono hb1 ?_)) | (with_reducible refine Below.trans ?_ (Below.mono hbr ?_)) | (with_reducible refine Below.trans ?_ (Below.mono hb ?_)) | (simp; done) | (simp; omega) | omega))⟩
        · have HR1 := Lib.hid (show firstBad (o.kids.map (checkB n)) = 0 by
            have hkn : k = nk := by omega
            refine firstBad_zero fun z hz => ?_
            obtain ⟨u, hu, rfl⟩ := List.mem_map.1 hz
            refine HA.out u ?_
            rw [List.take_of_length_le (by rw [HNK.out.1]; omega)]; exact hu)
          go_wp2
          go_ret
          exact ⟨ret_int (by rw [← HC.out, ← HR1.out]; rfl), (by repeat' (first | (with_reducible exact Below.refl _ _) | (with_reducible refine Below.drew ?_) | (with_reducible refine belowDrewN ?_ _) | (with_reducible refine belowIter ?_ ?_ _ _) | (with_reducible refine Below.setCell ?_ ?_ _) | (with_reducible refine Below.alloc ?_ ?_ _) | (with_reducible refine Below.trans ?_ (Below.mono hb4 ?_)) | (with_reducible refine Below.trans ?_ (Below.mono hb3 ?_)) | (with_reducible refine Below.trans ?_ (Below.mono hb2 ?_)) | (with_reducible refine Below.trans ?_ (Below.mono hb1 ?_)) | (with_reducible refine Below.trans ?_ (Below.mono hbr ?_)) | (with_reducible refine Below.trans ?_ (Below.mono hb ?_)) | (simp; done) | (simp; omega) | omega))⟩
  · rw [hq2] at hC
    have hq9 : K = 9 := by simp at hq2; exact hq2.1
    have hD3 : 1 < D := by simp at hq2; exact hq2.2
    subst hq9
    have HC := Lib.hid hC
    clear hC hq1 hq2
    go_enter Tryz.func30, Tryz.ntmps30
    go_wp2_with fail
    refine (HU.out _).mono ?_
    rintro e w1 ⟨rfl, hb1⟩
    obtain ⟨hc1, hf1⟩ := bcell hb1
    have hz1 := hb1.size
    simp at hz1
    go_wp2
    go_ret
    exact ⟨ret_int (by rw [← HC.out]; rfl), (by repeat' (first | (with_reducible exact Below.refl _ _) | (with_reducible refine Below.drew ?_) | (with_reducible refine belowDrewN ?_ _) | (with_reducible refine belowIter ?_ ?_ _ _) | (with_reducible refine Below.setCell ?_ ?_ _) | (with_reducible refine Below.alloc ?_ ?_ _) | (with_reducible refine Below.trans ?_ (Below.mono hb4 ?_)) | (with_reducible refine Below.trans ?_ (Below.mono hb3 ?_)) | (with_reducible refine Below.trans ?_ (Below.mono hb2 ?_)) | (with_reducible refine Below.trans ?_ (Below.mono hb1 ?_)) | (with_reducible refine Below.trans ?_ (Below.mono hbr ?_)) | (with_reducible refine Below.trans ?_ (Below.mono hb ?_)) | (simp; done) | (simp; omega) | omega))⟩
set_option maxHeartbeats 400000 in
theorem Check_in (S : Nat → Prop) (d : Nat) (w : World) (cs : List Value) (o : Ob) (h : ObjAt S d w cs o) (hsm : smallO d o) (hS : ∀ b, S b → b < w.heap.size) (HC : CheckC S 24) :
    Calls Tryz.prog 19 #[.agg cs.toArray] w fun e w' => e = .returned (.int .i64 (checkB 24 o)) ∧ Below w.heap.size w w' := by
  have HH := Lib.hid (fun (W : World) (hW : Below w.heap.size w W) => HC d W cs o (h.kept (fun b h => hW.block b (hS b h)) d) hsm (fun b h => Nat.lt_of_lt_of_le (hS b h) hW.size))
  obtain ⟨p1, c1, p2, c2, rfl⟩ := h.form2
  unfold objCells at HH
  unfold objCells
  clear h hS HC
  go_enter Tryz.func19, Tryz.ntmps19
  go_wp2_with fail
  refine (HH.out _ (by repeat' (first | (with_reducible exact Below.refl _ _) | (with_reducible refine Below.drew ?_) | (with_reducible refine belowDrewN ?_ _) | (with_reducible refine belowIter ?_ ?_ _ _) | (with_reducible refine Below.setCell ?_ ?_ _) | (with_reducible refine Below.alloc ?_ ?_ _) | (with_reducible refine Below.trans ?_ (Below.mono hb4 ?_)) | (with_reducible refine Below.trans ?_ (Below.mono hb3 ?_)) | (with_reducible refine Below.trans ?_ (Below.mono hb2 ?_)) | (with_reducible refine Below.trans ?_ (Below.mono hb1 ?_)) | (with_reducible refine Below.trans ?_ (Below.mono hbr ?_)) | (with_reducible refine Below.trans ?_ (Below.mono hb ?_)) | (simp; done) | (simp; omega) | omega))).mono ?_
  rintro e w1 ⟨rfl, hb1⟩
  go_wp2
  go_ret
  exact ⟨rfl, (by repeat' (first | (with_reducible exact Below.refl _ _) | (with_reducible refine Below.drew ?_) | (with_reducible refine belowDrewN ?_ _) | (with_reducible refine belowIter ?_ ?_ _ _) | (with_reducible refine Below.setCell ?_ ?_ _) | (with_reducible refine Below.alloc ?_ ?_ _) | (with_reducible refine Below.trans ?_ (Below.mono hb4 ?_)) | (with_reducible refine Below.trans ?_ (Below.mono hb3 ?_)) | (with_reducible refine Below.trans ?_ (Below.mono hb2 ?_)) | (with_reducible refine Below.trans ?_ (Below.mono hb1 ?_)) | (with_reducible refine Below.trans ?_ (Below.mono hbr ?_)) | (with_reducible refine Below.trans ?_ (Below.mono hb ?_)) | (simp; done) | (simp; omega) | omega))⟩
theorem check_in (S : Nat → Prop) : ∀ n, n ≤ 24 → CheckC S n
  | 0, _ => check_zero S
  | n + 1, h => check_step S n (by omega) (check_in S n (by omega))
end Go.Proofs.YtpadlepdgnlgnaaGreatDoor
