/- The walks of the document's answer, foliantref46: Check and Text. -/
import Derived.Test.YtibffdaljmmdoaaGreatDoorGRefC
import Derived.Test.YtibffdaljmmdoaaGreatDoorGWr
import Derived.Test.YtibffdaljmmdoaaGreatDoorGCm
import Derived.Deep.RegionHeld3
set_option linter.all false
/- The reference of the mapping layer: Check. -/
namespace Go.Proofs.YtibffdaljmmdoaaGreatDoor
open Go.RowKit Fo Go.Maps

set_option maxRecDepth 100000 in
set_option maxHeartbeats 2000000 in
theorem rcheck_in (v : Value) (m : CM) (wide : Bool) (w : World) (hv : MArg w v m) (hm : m.length ≤ 1000000) (hx : ∀ p ∈ m, p.2.length ≤ 1000000) :
    Calls Tryz.prog 20 #[v, .bool wide] w fun e w' => e = .returned (.int .i64 (checkC m wide)) ∧ Below w.heap.size w w' := by
  obtain ⟨p, cp, rfl, hcell⟩ := hv
  have HC := Lib.hid hcell
  have HXL := Lib.hid hx
  clear hcell hx
  obtain ⟨N, hN⟩ : ∃ N, m.length = N := ⟨_, rfl⟩
  obtain ⟨most, hmost⟩ : ∃ most, mostC wide = most := ⟨_, rfl⟩
  obtain ⟨R, hR⟩ : ∃ R, checkC m wide = R := ⟨_, rfl⟩
  rw [hR]
  unfold checkC at hR
  rw [hN] at hR ⊢
  rw [hmost] at hR
  have hN1 : N ≤ 1000000 := by omega
  by_cases hbig : 4096 < N
  · rw [if_pos hbig] at hR
    subst hR
    have d0 : decide ((4096 : Int) < (N : Int)) = true := by simp; omega
    clear hbig hmost
    cases wide
    · go_enter Tryz.func20, Tryz.ntmps20
      go_wp2
      go_ret
      exact ⟨rfl, (by repeat' (first | (with_reducible exact Below.refl _ _) | (with_reducible refine Below.drew ?_) | (with_reducible refine belowDrewN ?_ _) | (with_reducible refine belowIter ?_ ?_ _ _) | (with_reducible refine Below.setCell ?_ ?_ _) | (with_reducible refine Below.alloc ?_ ?_ _) | (with_reducible refine Below.trans ?_ (Below.mono hb4 ?_)) | (with_reducible refine Below.trans ?_ (Below.mono hb3 ?_)) | (with_reducible refine Below.trans ?_ (Below.mono hb2 ?_)) | (with_reducible refine Below.trans ?_ (Below.mono hb1 ?_)) | (with_reducible refine Below.trans ?_ (Below.mono hbr ?_)) | (with_reducible refine Below.trans ?_ (Below.mono hb ?_)) | (simp; done) | (simp; omega) | omega))⟩
    · go_enter Tryz.func20, Tryz.ntmps20
      go_wp2
      go_ret
      exact ⟨rfl, (by repeat' (first | (with_reducible exact Below.refl _ _) | (with_reducible refine Below.drew ?_) | (with_reducible refine belowDrewN ?_ _) | (with_reducible refine belowIter ?_ ?_ _ _) | (with_reducible refine Below.setCell ?_ ?_ _) | (with_reducible refine Below.alloc ?_ ?_ _) | (with_reducible refine Below.trans ?_ (Below.mono hb4 ?_)) | (with_reducible refine Below.trans ?_ (Below.mono hb3 ?_)) | (with_reducible refine Below.trans ?_ (Below.mono hb2 ?_)) | (with_reducible refine Below.trans ?_ (Below.mono hb1 ?_)) | (with_reducible refine Below.trans ?_ (Below.mono hbr ?_)) | (with_reducible refine Below.trans ?_ (Below.mono hb ?_)) | (simp; done) | (simp; omega) | omega))⟩
  · rw [if_neg hbig] at hR
    have d0 : decide ((4096 : Int) < (N : Int)) = false := by simp; omega
    have HR := Lib.hid hR
    clear hR hbig
    go_enter Tryz.func20, Tryz.ntmps20
    cases wide
    · obtain rfl : most = 255 := hmost.symm
      go_wp2
      go_loopw [6] (fun i wr => ∃ k : Nat, k ≤ N ∧ i = .int .i64 k ∧ Hid (checkGo 255 (prevC m k) (m.drop k) = R) ∧ Below w.heap.size w wr) (fun i _ => N - (intOf i).toNat)
      case atStart => exact ⟨0, Nat.zero_le _, rfl, Lib.hid (check_start HR.out), Below.refl _ _⟩
      case round =>
        obtain ⟨k, hk, rfl, HX, hbr⟩ := hrel
        have hzr := hbr.size
        by_cases hlk : k < N
        rotate_left
        · obtain rfl := check_end (by omega) HX.out
          go_wp2
          go_ret
          exact ⟨rfl, hbr⟩
        have hlk2 : k < m.length := by rw [hN]; exact hlk
        obtain ⟨g, off, rfl, hg, d0, d1⟩ := HC.out k hlk2
        have hxl := HXL.out _ (List.getElem_mem hlk2)
        have hst := check_step hlk2 HX.out
        obtain ⟨d, hd⟩ : ∃ d, (m[k]).1 = d := ⟨_, rfl⟩
        obtain ⟨x, hx⟩ : ∃ x, (m[k]).2 = x := ⟨_, rfl⟩
        rw [hd] at d0 hst
        rw [hx] at d1 hst hxl
        have c0 := (World.cell?_of_block (hbr.block g hg)).trans d0
        have c1 := (World.cell?_of_block (hbr.block g hg)).trans d1
        clear d0 d1 HX
        by_cases hrange : d < 0 ∨ 255 < d
        · rw [if_pos hrange] at hst
          subst hst
          by_cases hneg : d < 0
          · have e1 : decide (d < 0) = true := by simpa using hneg
            clear hneg hrange
            go_wp2
            go_ret
            exact ⟨rfl, (by repeat' (first | (with_reducible exact Below.refl _ _) | (with_reducible refine Below.drew ?_) | (with_reducible refine belowDrewN ?_ _) | (with_reducible refine belowIter ?_ ?_ _ _) | (with_reducible refine Below.setCell ?_ ?_ _) | (with_reducible refine Below.alloc ?_ ?_ _) | (with_reducible refine Below.trans ?_ (Below.mono hb4 ?_)) | (with_reducible refine Below.trans ?_ (Below.mono hb3 ?_)) | (with_reducible refine Below.trans ?_ (Below.mono hb2 ?_)) | (with_reducible refine Below.trans ?_ (Below.mono hb1 ?_)) | (with_reducible refine Below.trans ?_ (Below.mono hbr ?_)) | (with_reducible refine Below.trans ?_ (Below.mono hb ?_)) | (simp; done) | (simp; omega) | omega))⟩
          · have e1 : decide (d < 0) = false := by simpa using hneg
            have e2 : decide (255 < d) = true := by rcases hrange with h | h; exact absurd h hneg; simpa using h
            clear hneg hrange
            go_wp2
            go_ret
            exact ⟨rfl, (by repeat' (first | (with_reducible exact Below.refl _ _) | (with_reducible refine Below.drew ?_) | (with_reducible refine belowDrewN ?_ _) | (with_reducible refine belowIter ?_ ?_ _ _) | (with_reducible refine Below.setCell ?_ ?_ _) | (with_reducible refine Below.alloc ?_ ?_ _) | (with_reducible refine Below.trans ?_ (Below.mono hb4 ?_)) | (with_reducible refine Below.trans ?_ (Below.mono hb3 ?_)) | (with_reducible refine Below.trans ?_ (Below.mono hb2 ?_)) | (with_reducible refine Below.trans ?_ (Below.mono hb1 ?_)) | (with_reducible refine Below.trans ?_ (Below.mono hbr ?_)) | (with_reducible refine Below.trans ?_ (Below.mono hb ?_)) | (simp; done) | (simp; omega) | omega))⟩
        rw [if_neg hrange] at hst
        have e1 : decide (d < 0) = false := by simp; omega
        have e2 : decide (255 < d) = false := by simp; omega
        clear hrange
        have HV := Lib.hid (fun W => rutf8_in ⟨x.toArray⟩ (by show x.length ≤ _; omega) W)
        have HU := Lib.hid (fun W => rUnits_in ⟨x.toArray⟩ (by show x.length ≤ _; omega) W)
        simp only [List.toList_toArray] at HV HU
        obtain ⟨V, hV⟩ : ∃ V, Lib.validD x = V := ⟨_, rfl⟩
        rw [hV] at HV hst
        cases V with
        | false =>
          rw [if_pos rfl] at hst
          subst hst
          go_wp2_with fail
          refine (HV.out _).mono ?_
          rintro e w1 ⟨rfl, hb1⟩
          have hz1 := hb1.size
          have HB1 := Lib.hid (hbr.trans (hb1.mono hzr))
          have t0 : w1.cell? ⟨g, off + k * 2, none⟩ = some (.int .i64 d) := (World.cell?_of_block (a := ⟨g, off + k * 2, none⟩) (hb1.block g (by omega))).trans c0
          have t1 : w1.cell? ⟨g, off + k * 2 + 1, none⟩ = some (.string ⟨x.toArray⟩) := (World.cell?_of_block (a := ⟨g, off + k * 2 + 1, none⟩) (hb1.block g (by omega))).trans c1
          go_wp2
          go_ret
          exact ⟨rfl, HB1.out⟩
        | true =>
          rw [if_neg (by decide)] at hst
          obtain ⟨U, hU⟩ : ∃ U, unitsS x = U := ⟨_, rfl⟩
          rw [hU] at HU hst
          clear hU hV
          by_cases hul : 512 < U.length
          · rw [if_pos hul] at hst
            subst hst
            have e3 : decide ((512 : Int) < (U.length : Int)) = true := by simp; omega
            clear hul
            go_wp2_with fail
            refine (HV.out _).mono ?_
            rintro e w1 ⟨rfl, hb1⟩
            have hz1 := hb1.size
            have HB1 := Lib.hid (hbr.trans (hb1.mono hzr))
            have t0 : w1.cell? ⟨g, off + k * 2, none⟩ = some (.int .i64 d) := (World.cell?_of_block (a := ⟨g, off + k * 2, none⟩) (hb1.block g (by omega))).trans c0
            have t1 : w1.cell? ⟨g, off + k * 2 + 1, none⟩ = some (.string ⟨x.toArray⟩) := (World.cell?_of_block (a := ⟨g, off + k * 2 + 1, none⟩) (hb1.block g (by omega))).trans c1
            go_wp2_with fail
            refine (HU.out _).mono ?_
            rintro e w2 ⟨rfl, hb2⟩
            have hz2 := hb2.size
            have HB2 := Lib.hid (HB1.out.trans (hb2.mono (by omega)))
            have s0 : w2.cell? ⟨g, off + k * 2, none⟩ = some (.int .i64 d) := (World.cell?_of_block (a := ⟨g, off + k * 2, none⟩) (hb2.block g (by omega))).trans t0
            have s1 : w2.cell? ⟨g, off + k * 2 + 1, none⟩ = some (.string ⟨x.toArray⟩) := (World.cell?_of_block (a := ⟨g, off + k * 2 + 1, none⟩) (hb2.block g (by omega))).trans t1
            go_wp2
            go_ret
            exact ⟨rfl, HB2.out⟩
          rw [if_neg hul] at hst
          have e3 : decide ((512 : Int) < (U.length : Int)) = false := by simp; omega
          clear hul
          by_cases hk0 : k = 0
          · subst hk0
            have HST := Lib.hid (show checkGo 255 (prevC m 1) (m.drop 1) = R by rw [hst, prevC_zero, if_neg (by simp), if_neg (by simp [underC])])
            clear hst
            rw [Nat.zero_mul, Nat.add_zero] at c0 c1
            go_wp2_with fail
            refine (HV.out _).mono ?_
            rintro e w1 ⟨rfl, hb1⟩
            have hz1 := hb1.size
            have HB1 := Lib.hid (hbr.trans (hb1.mono hzr))
            have t0 : w1.cell? ⟨g, off, none⟩ = some (.int .i64 d) := (World.cell?_of_block (a := ⟨g, off, none⟩) (hb1.block g (by omega))).trans c0
            have t1 : w1.cell? ⟨g, off + 1, none⟩ = some (.string ⟨x.toArray⟩) := (World.cell?_of_block (a := ⟨g, off + 1, none⟩) (hb1.block g (by omega))).trans c1
            go_wp2_with fail
            refine (HU.out _).mono ?_
            rintro e w2 ⟨rfl, hb2⟩
            have hz2 := hb2.size
            have HB2 := Lib.hid (HB1.out.trans (hb2.mono (by omega)))
            have s0 : w2.cell? ⟨g, off, none⟩ = some (.int .i64 d) := (World.cell?_of_block (a := ⟨g, off, none⟩) (hb2.block g (by omega))).trans t0
            have s1 : w2.cell? ⟨g, off + 1, none⟩ = some (.string ⟨x.toArray⟩) := (World.cell?_of_block (a := ⟨g, off + 1, none⟩) (hb2.block g (by omega))).trans t1
            go_wp2
            go_region
            go_wp2
            go_region
            go_wp2
            go_roundw
            case rel => exact ⟨1, by omega, by go_num, HST, by have hb := HB2.out; exact (by repeat' (first | (with_reducible exact Below.refl _ _) | (with_reducible refine Below.drew ?_) | (with_reducible refine belowDrewN ?_ _) | (with_reducible refine belowIter ?_ ?_ _ _) | (with_reducible refine Below.setCell ?_ ?_ _) | (with_reducible refine Below.alloc ?_ ?_ _) | (with_reducible refine Below.trans ?_ (Below.mono hb4 ?_)) | (with_reducible refine Below.trans ?_ (Below.mono hb3 ?_)) | (with_reducible refine Below.trans ?_ (Below.mono hb2 ?_)) | (with_reducible refine Below.trans ?_ (Below.mono hb1 ?_)) | (with_reducible refine Below.trans ?_ (Below.mono hbr ?_)) | (with_reducible refine Below.trans ?_ (Below.mono hb ?_)) | (simp; done) | (simp; omega) | omega))⟩
            case measure => simp [intOf]; omega
          · obtain ⟨j, rfl⟩ : ∃ j, k = j + 1 := ⟨k - 1, by omega⟩
            clear hk0
            have hjm : j < m.length := by omega
            have hjN : j < N := by omega
            obtain ⟨g2, off2, hgg, _, d0, _⟩ := HC.out j hjm
            obtain ⟨rfl, rfl⟩ : g2 = g ∧ off2 = off := by simp at hgg; exact ⟨hgg.1.symm, hgg.2.symm⟩
            have hpv : prevC m (j + 1) = some (m[j]).1 := prevC_succ m j hjm
            obtain ⟨pd, hpd⟩ : ∃ pd, (m[j]).1 = pd := ⟨_, rfl⟩
            rw [hpd] at d0 hpv
            rw [hpv] at hst
            have p0 := (World.cell?_of_block (hbr.block g2 hg)).trans d0
            have q2 : IntKind.i64.wrap (j : Int) = (j : Int) := IntWalk.i64_in _ (by omega)
            have e4 : decide ((0 : Int) < (j : Int) + 1) = true := decide_eq_true (by omega)
            clear d0 hpd hpv hgg
            by_cases heq : pd = d
            · rw [if_pos (by rw [heq])] at hst
              subst hst
              have e5 : (d == pd) = true := by simpa using heq.symm
              clear heq
              go_wp2_with fail
              refine (HV.out _).mono ?_
              rintro e w1 ⟨rfl, hb1⟩
              have hz1 := hb1.size
              have HB1 := Lib.hid (hbr.trans (hb1.mono hzr))
              have t0 : w1.cell? ⟨g2, off2 + (j + 1) * 2, none⟩ = some (.int .i64 d) := (World.cell?_of_block (a := ⟨g2, off2 + (j + 1) * 2, none⟩) (hb1.block g2 (by omega))).trans c0
              have t1 : w1.cell? ⟨g2, off2 + (j + 1) * 2 + 1, none⟩ = some (.string ⟨x.toArray⟩) := (World.cell?_of_block (a := ⟨g2, off2 + (j + 1) * 2 + 1, none⟩) (hb1.block g2 (by omega))).trans c1
              go_wp2_with fail
              refine (HU.out _).mono ?_
              rintro e w2 ⟨rfl, hb2⟩
              have hz2 := hb2.size
              have HB2 := Lib.hid (HB1.out.trans (hb2.mono (by omega)))
              have s0 : w2.cell? ⟨g2, off2 + (j + 1) * 2, none⟩ = some (.int .i64 d) := (World.cell?_of_block (a := ⟨g2, off2 + (j + 1) * 2, none⟩) (hb2.block g2 (by omega))).trans t0
              have s1 : w2.cell? ⟨g2, off2 + (j + 1) * 2 + 1, none⟩ = some (.string ⟨x.toArray⟩) := (World.cell?_of_block (a := ⟨g2, off2 + (j + 1) * 2 + 1, none⟩) (hb2.block g2 (by omega))).trans t1
              have hgl : g2 < w2.heap.size := by omega
              have p2 : w2.cell? ⟨g2, off2 + j * 2, none⟩ = some (.int .i64 pd) := by
                rw [World.cell?_of_block (hb2.block g2 (by omega)), World.cell?_of_block (hb1.block g2 (by omega))]; exact p0
              go_wp2
              go_quiet (fail)
              go_wp2
              go_ret
              exact ⟨rfl, by have hb := HB2.out; exact (by repeat' (first | (with_reducible exact Below.refl _ _) | (with_reducible refine Below.drew ?_) | (with_reducible refine belowDrewN ?_ _) | (with_reducible refine belowIter ?_ ?_ _ _) | (with_reducible refine Below.setCell ?_ ?_ _) | (with_reducible refine Below.alloc ?_ ?_ _) | (with_reducible refine Below.trans ?_ (Below.mono hb4 ?_)) | (with_reducible refine Below.trans ?_ (Below.mono hb3 ?_)) | (with_reducible refine Below.trans ?_ (Below.mono hb2 ?_)) | (with_reducible refine Below.trans ?_ (Below.mono hb1 ?_)) | (with_reducible refine Below.trans ?_ (Below.mono hbr ?_)) | (with_reducible refine Below.trans ?_ (Below.mono hb ?_)) | (simp; done) | (simp; omega) | omega))⟩
            rw [if_neg (fun h => heq (Option.some.inj h))] at hst
            have e5 : (d == pd) = false := by simpa using fun h => heq h.symm
            by_cases hun : d < pd
            · rw [if_pos (by simpa [underC] using hun)] at hst
              subst hst
              have e6 : decide (d < pd) = true := by simpa using hun
              clear heq hun
              go_wp2_with fail
              refine (HV.out _).mono ?_
              rintro e w1 ⟨rfl, hb1⟩
              have hz1 := hb1.size
              have HB1 := Lib.hid (hbr.trans (hb1.mono hzr))
              have t0 : w1.cell? ⟨g2, off2 + (j + 1) * 2, none⟩ = some (.int .i64 d) := (World.cell?_of_block (a := ⟨g2, off2 + (j + 1) * 2, none⟩) (hb1.block g2 (by omega))).trans c0
              have t1 : w1.cell? ⟨g2, off2 + (j + 1) * 2 + 1, none⟩ = some (.string ⟨x.toArray⟩) := (World.cell?_of_block (a := ⟨g2, off2 + (j + 1) * 2 + 1, none⟩) (hb1.block g2 (by omega))).trans c1
              go_wp2_with fail
              refine (HU.out _).mono ?_
              rintro e w2 ⟨rfl, hb2⟩
              have hz2 := hb2.size
              have HB2 := Lib.hid (HB1.out.trans (hb2.mono (by omega)))
              have s0 : w2.cell? ⟨g2, off2 + (j + 1) * 2, none⟩ = some (.int .i64 d) := (World.cell?_of_block (a := ⟨g2, off2 + (j + 1) * 2, none⟩) (hb2.block g2 (by omega))).trans t0
              have s1 : w2.cell? ⟨g2, off2 + (j + 1) * 2 + 1, none⟩ = some (.string ⟨x.toArray⟩) := (World.cell?_of_block (a := ⟨g2, off2 + (j + 1) * 2 + 1, none⟩) (hb2.block g2 (by omega))).trans t1
              have hgl : g2 < w2.heap.size := by omega
              have p2 : w2.cell? ⟨g2, off2 + j * 2, none⟩ = some (.int .i64 pd) := by
                rw [World.cell?_of_block (hb2.block g2 (by omega)), World.cell?_of_block (hb1.block g2 (by omega))]; exact p0
              go_wp2
              go_quiet (fail)
              go_wp2
              go_quiet (fail)
              go_wp2
              go_ret
              exact ⟨rfl, by have hb := HB2.out; exact (by repeat' (first | (with_reducible exact Below.refl _ _) | (with_reducible refine Below.drew ?_) | (with_reducible refine belowDrewN ?_ _) | (with_reducible refine belowIter ?_ ?_ _ _) | (with_reducible refine Below.setCell ?_ ?_ _) | (with_reducible refine Below.alloc ?_ ?_ _) | (with_reducible refine Below.trans ?_ (Below.mono hb4 ?_)) | (with_reducible refine Below.trans ?_ (Below.mono hb3 ?_)) | (with_reducible refine Below.trans ?_ (Below.mono hb2 ?_)) | (with_reducible refine Below.trans ?_ (Below.mono hb1 ?_)) | (with_reducible refine Below.trans ?_ (Below.mono hbr ?_)) | (with_reducible refine Below.trans ?_ (Below.mono hb ?_)) | (simp; done) | (simp; omega) | omega))⟩
            have HST := Lib.hid (show checkGo 255 (prevC m (j + 1 + 1)) (m.drop (j + 1 + 1)) = R by rw [hst, if_neg (by simpa [underC] using hun)])
            have e6 : decide (d < pd) = false := by simpa using hun
            clear heq hun hst
            go_wp2_with fail
            refine (HV.out _).mono ?_
            rintro e w1 ⟨rfl, hb1⟩
            have hz1 := hb1.size
            have HB1 := Lib.hid (hbr.trans (hb1.mono hzr))
            have t0 : w1.cell? ⟨g2, off2 + (j + 1) * 2, none⟩ = some (.int .i64 d) := (World.cell?_of_block (a := ⟨g2, off2 + (j + 1) * 2, none⟩) (hb1.block g2 (by omega))).trans c0
            have t1 : w1.cell? ⟨g2, off2 + (j + 1) * 2 + 1, none⟩ = some (.string ⟨x.toArray⟩) := (World.cell?_of_block (a := ⟨g2, off2 + (j + 1) * 2 + 1, none⟩) (hb1.block g2 (by omega))).trans c1
            go_wp2_with fail
            refine (HU.out _).mono ?_
            rintro e w2 ⟨rfl, hb2⟩
            have hz2 := hb2.size
            have HB2 := Lib.hid (HB1.out.trans (hb2.mono (by omega)))
            have s0 : w2.cell? ⟨g2, off2 + (j + 1) * 2, none⟩ = some (.int .i64 d) := (World.cell?_of_block (a := ⟨g2, off2 + (j + 1) * 2, none⟩) (hb2.block g2 (by omega))).trans t0
            have s1 : w2.cell? ⟨g2, off2 + (j + 1) * 2 + 1, none⟩ = some (.string ⟨x.toArray⟩) := (World.cell?_of_block (a := ⟨g2, off2 + (j + 1) * 2 + 1, none⟩) (hb2.block g2 (by omega))).trans t1
            have hgl : g2 < w2.heap.size := by omega
            have p2 : w2.cell? ⟨g2, off2 + j * 2, none⟩ = some (.int .i64 pd) := by
              rw [World.cell?_of_block (hb2.block g2 (by omega)), World.cell?_of_block (hb1.block g2 (by omega))]; exact p0
            go_wp2
            go_quiet (fail)
            go_wp2
            go_quiet (fail)
            go_wp2
            go_roundw
            case rel => exact ⟨j + 1 + 1, by omega, by go_num, HST, by have hb := HB2.out; exact (by repeat' (first | (with_reducible exact Below.refl _ _) | (with_reducible refine Below.drew ?_) | (with_reducible refine belowDrewN ?_ _) | (with_reducible refine belowIter ?_ ?_ _ _) | (with_reducible refine Below.setCell ?_ ?_ _) | (with_reducible refine Below.alloc ?_ ?_ _) | (with_reducible refine Below.trans ?_ (Below.mono hb4 ?_)) | (with_reducible refine Below.trans ?_ (Below.mono hb3 ?_)) | (with_reducible refine Below.trans ?_ (Below.mono hb2 ?_)) | (with_reducible refine Below.trans ?_ (Below.mono hb1 ?_)) | (with_reducible refine Below.trans ?_ (Below.mono hbr ?_)) | (with_reducible refine Below.trans ?_ (Below.mono hb ?_)) | (simp; done) | (simp; omega) | omega))⟩
            case measure => simp [intOf]; omega
    · obtain rfl : most = 65535 := hmost.symm
      go_wp2
      go_loopw [6] (fun i wr => ∃ k : Nat, k ≤ N ∧ i = .int .i64 k ∧ Hid (checkGo 65535 (prevC m k) (m.drop k) = R) ∧ Below w.heap.size w wr) (fun i _ => N - (intOf i).toNat)
      case atStart => exact ⟨0, Nat.zero_le _, rfl, Lib.hid (check_start HR.out), Below.refl _ _⟩
      case round =>
        obtain ⟨k, hk, rfl, HX, hbr⟩ := hrel
        have hzr := hbr.size
        by_cases hlk : k < N
        rotate_left
        · obtain rfl := check_end (by omega) HX.out
          go_wp2
          go_ret
          exact ⟨rfl, hbr⟩
        have hlk2 : k < m.length := by rw [hN]; exact hlk
        obtain ⟨g, off, rfl, hg, d0, d1⟩ := HC.out k hlk2
        have hxl := HXL.out _ (List.getElem_mem hlk2)
        have hst := check_step hlk2 HX.out
        obtain ⟨d, hd⟩ : ∃ d, (m[k]).1 = d := ⟨_, rfl⟩
        obtain ⟨x, hx⟩ : ∃ x, (m[k]).2 = x := ⟨_, rfl⟩
        rw [hd] at d0 hst
        rw [hx] at d1 hst hxl
        have c0 := (World.cell?_of_block (hbr.block g hg)).trans d0
        have c1 := (World.cell?_of_block (hbr.block g hg)).trans d1
        clear d0 d1 HX
        by_cases hrange : d < 0 ∨ 65535 < d
        · rw [if_pos hrange] at hst
          subst hst
          by_cases hneg : d < 0
          · have e1 : decide (d < 0) = true := by simpa using hneg
            clear hneg hrange
            go_wp2
            go_ret
            exact ⟨rfl, (by repeat' (first | (with_reducible exact Below.refl _ _) | (with_reducible refine Below.drew ?_) | (with_reducible refine belowDrewN ?_ _) | (with_reducible refine belowIter ?_ ?_ _ _) | (with_reducible refine Below.setCell ?_ ?_ _) | (with_reducible refine Below.alloc ?_ ?_ _) | (with_reducible refine Below.trans ?_ (Below.mono hb4 ?_)) | (with_reducible refine Below.trans ?_ (Below.mono hb3 ?_)) | (with_reducible refine Below.trans ?_ (Below.mono hb2 ?_)) | (with_reducible refine Below.trans ?_ (Below.mono hb1 ?_)) | (with_reducible refine Below.trans ?_ (Below.mono hbr ?_)) | (with_reducible refine Below.trans ?_ (Below.mono hb ?_)) | (simp; done) | (simp; omega) | omega))⟩
          · have e1 : decide (d < 0) = false := by simpa using hneg
            have e2 : decide (65535 < d) = true := by rcases hrange with h | h; exact absurd h hneg; simpa using h
            clear hneg hrange
            go_wp2
            go_ret
            exact ⟨rfl, (by repeat' (first | (with_reducible exact Below.refl _ _) | (with_reducible refine Below.drew ?_) | (with_reducible refine belowDrewN ?_ _) | (with_reducible refine belowIter ?_ ?_ _ _) | (with_reducible refine Below.setCell ?_ ?_ _) | (with_reducible refine Below.alloc ?_ ?_ _) | (with_reducible refine Below.trans ?_ (Below.mono hb4 ?_)) | (with_reducible refine Below.trans ?_ (Below.mono hb3 ?_)) | (with_reducible refine Below.trans ?_ (Below.mono hb2 ?_)) | (with_reducible refine Below.trans ?_ (Below.mono hb1 ?_)) | (with_reducible refine Below.trans ?_ (Below.mono hbr ?_)) | (with_reducible refine Below.trans ?_ (Below.mono hb ?_)) | (simp; done) | (simp; omega) | omega))⟩
        rw [if_neg hrange] at hst
        have e1 : decide (d < 0) = false := by simp; omega
        have e2 : decide (65535 < d) = false := by simp; omega
        clear hrange
        have HV := Lib.hid (fun W => rutf8_in ⟨x.toArray⟩ (by show x.length ≤ _; omega) W)
        have HU := Lib.hid (fun W => rUnits_in ⟨x.toArray⟩ (by show x.length ≤ _; omega) W)
        simp only [List.toList_toArray] at HV HU
        obtain ⟨V, hV⟩ : ∃ V, Lib.validD x = V := ⟨_, rfl⟩
        rw [hV] at HV hst
        cases V with
        | false =>
          rw [if_pos rfl] at hst
          subst hst
          go_wp2_with fail
          refine (HV.out _).mono ?_
          rintro e w1 ⟨rfl, hb1⟩
          have hz1 := hb1.size
          have HB1 := Lib.hid (hbr.trans (hb1.mono hzr))
          have t0 : w1.cell? ⟨g, off + k * 2, none⟩ = some (.int .i64 d) := (World.cell?_of_block (a := ⟨g, off + k * 2, none⟩) (hb1.block g (by omega))).trans c0
          have t1 : w1.cell? ⟨g, off + k * 2 + 1, none⟩ = some (.string ⟨x.toArray⟩) := (World.cell?_of_block (a := ⟨g, off + k * 2 + 1, none⟩) (hb1.block g (by omega))).trans c1
          go_wp2
          go_ret
          exact ⟨rfl, HB1.out⟩
        | true =>
          rw [if_neg (by decide)] at hst
          obtain ⟨U, hU⟩ : ∃ U, unitsS x = U := ⟨_, rfl⟩
          rw [hU] at HU hst
          clear hU hV
          by_cases hul : 512 < U.length
          · rw [if_pos hul] at hst
            subst hst
            have e3 : decide ((512 : Int) < (U.length : Int)) = true := by simp; omega
            clear hul
            go_wp2_with fail
            refine (HV.out _).mono ?_
            rintro e w1 ⟨rfl, hb1⟩
            have hz1 := hb1.size
            have HB1 := Lib.hid (hbr.trans (hb1.mono hzr))
            have t0 : w1.cell? ⟨g, off + k * 2, none⟩ = some (.int .i64 d) := (World.cell?_of_block (a := ⟨g, off + k * 2, none⟩) (hb1.block g (by omega))).trans c0
            have t1 : w1.cell? ⟨g, off + k * 2 + 1, none⟩ = some (.string ⟨x.toArray⟩) := (World.cell?_of_block (a := ⟨g, off + k * 2 + 1, none⟩) (hb1.block g (by omega))).trans c1
            go_wp2_with fail
            refine (HU.out _).mono ?_
            rintro e w2 ⟨rfl, hb2⟩
            have hz2 := hb2.size
            have HB2 := Lib.hid (HB1.out.trans (hb2.mono (by omega)))
            have s0 : w2.cell? ⟨g, off + k * 2, none⟩ = some (.int .i64 d) := (World.cell?_of_block (a := ⟨g, off + k * 2, none⟩) (hb2.block g (by omega))).trans t0
            have s1 : w2.cell? ⟨g, off + k * 2 + 1, none⟩ = some (.string ⟨x.toArray⟩) := (World.cell?_of_block (a := ⟨g, off + k * 2 + 1, none⟩) (hb2.block g (by omega))).trans t1
            go_wp2
            go_ret
            exact ⟨rfl, HB2.out⟩
          rw [if_neg hul] at hst
          have e3 : decide ((512 : Int) < (U.length : Int)) = false := by simp; omega
          clear hul
          by_cases hk0 : k = 0
          · subst hk0
            have HST := Lib.hid (show checkGo 65535 (prevC m 1) (m.drop 1) = R by rw [hst, prevC_zero, if_neg (by simp), if_neg (by simp [underC])])
            clear hst
            rw [Nat.zero_mul, Nat.add_zero] at c0 c1
            go_wp2_with fail
            refine (HV.out _).mono ?_
            rintro e w1 ⟨rfl, hb1⟩
            have hz1 := hb1.size
            have HB1 := Lib.hid (hbr.trans (hb1.mono hzr))
            have t0 : w1.cell? ⟨g, off, none⟩ = some (.int .i64 d) := (World.cell?_of_block (a := ⟨g, off, none⟩) (hb1.block g (by omega))).trans c0
            have t1 : w1.cell? ⟨g, off + 1, none⟩ = some (.string ⟨x.toArray⟩) := (World.cell?_of_block (a := ⟨g, off + 1, none⟩) (hb1.block g (by omega))).trans c1
            go_wp2_with fail
            refine (HU.out _).mono ?_
            rintro e w2 ⟨rfl, hb2⟩
            have hz2 := hb2.size
            have HB2 := Lib.hid (HB1.out.trans (hb2.mono (by omega)))
            have s0 : w2.cell? ⟨g, off, none⟩ = some (.int .i64 d) := (World.cell?_of_block (a := ⟨g, off, none⟩) (hb2.block g (by omega))).trans t0
            have s1 : w2.cell? ⟨g, off + 1, none⟩ = some (.string ⟨x.toArray⟩) := (World.cell?_of_block (a := ⟨g, off + 1, none⟩) (hb2.block g (by omega))).trans t1
            go_wp2
            go_region
            go_wp2
            go_region
            go_wp2
            go_roundw
            case rel => exact ⟨1, by omega, by go_num, HST, by have hb := HB2.out; exact (by repeat' (first | (with_reducible exact Below.refl _ _) | (with_reducible refine Below.drew ?_) | (with_reducible refine belowDrewN ?_ _) | (with_reducible refine belowIter ?_ ?_ _ _) | (with_reducible refine Below.setCell ?_ ?_ _) | (with_reducible refine Below.alloc ?_ ?_ _) | (with_reducible refine Below.trans ?_ (Below.mono hb4 ?_)) | (with_reducible refine Below.trans ?_ (Below.mono hb3 ?_)) | (with_reducible refine Below.trans ?_ (Below.mono hb2 ?_)) | (with_reducible refine Below.trans ?_ (Below.mono hb1 ?_)) | (with_reducible refine Below.trans ?_ (Below.mono hbr ?_)) | (with_reducible refine Below.trans ?_ (Below.mono hb ?_)) | (simp; done) | (simp; omega) | omega))⟩
            case measure => simp [intOf]; omega
          · obtain ⟨j, rfl⟩ : ∃ j, k = j + 1 := ⟨k - 1, by omega⟩
            clear hk0
            have hjm : j < m.length := by omega
            have hjN : j < N := by omega
            obtain ⟨g2, off2, hgg, _, d0, _⟩ := HC.out j hjm
            obtain ⟨rfl, rfl⟩ : g2 = g ∧ off2 = off := by simp at hgg; exact ⟨hgg.1.symm, hgg.2.symm⟩
            have hpv : prevC m (j + 1) = some (m[j]).1 := prevC_succ m j hjm
            obtain ⟨pd, hpd⟩ : ∃ pd, (m[j]).1 = pd := ⟨_, rfl⟩
            rw [hpd] at d0 hpv
            rw [hpv] at hst
            have p0 := (World.cell?_of_block (hbr.block g2 hg)).trans d0
            have q2 : IntKind.i64.wrap (j : Int) = (j : Int) := IntWalk.i64_in _ (by omega)
            have e4 : decide ((0 : Int) < (j : Int) + 1) = true := decide_eq_true (by omega)
            clear d0 hpd hpv hgg
            by_cases heq : pd = d
            · rw [if_pos (by rw [heq])] at hst
              subst hst
              have e5 : (d == pd) = true := by simpa using heq.symm
              clear heq
              go_wp2_with fail
              refine (HV.out _).mono ?_
              rintro e w1 ⟨rfl, hb1⟩
              have hz1 := hb1.size
              have HB1 := Lib.hid (hbr.trans (hb1.mono hzr))
              have t0 : w1.cell? ⟨g2, off2 + (j + 1) * 2, none⟩ = some (.int .i64 d) := (World.cell?_of_block (a := ⟨g2, off2 + (j + 1) * 2, none⟩) (hb1.block g2 (by omega))).trans c0
              have t1 : w1.cell? ⟨g2, off2 + (j + 1) * 2 + 1, none⟩ = some (.string ⟨x.toArray⟩) := (World.cell?_of_block (a := ⟨g2, off2 + (j + 1) * 2 + 1, none⟩) (hb1.block g2 (by omega))).trans c1
              go_wp2_with fail
              refine (HU.out _).mono ?_
              rintro e w2 ⟨rfl, hb2⟩
              have hz2 := hb2.size
              have HB2 := Lib.hid (HB1.out.trans (hb2.mono (by omega)))
              have s0 : w2.cell? ⟨g2, off2 + (j + 1) * 2, none⟩ = some (.int .i64 d) := (World.cell?_of_block (a := ⟨g2, off2 + (j + 1) * 2, none⟩) (hb2.block g2 (by omega))).trans t0
              have s1 : w2.cell? ⟨g2, off2 + (j + 1) * 2 + 1, none⟩ = some (.string ⟨x.toArray⟩) := (World.cell?_of_block (a := ⟨g2, off2 + (j + 1) * 2 + 1, none⟩) (hb2.block g2 (by omega))).trans t1
              have hgl : g2 < w2.heap.size := by omega
              have p2 : w2.cell? ⟨g2, off2 + j * 2, none⟩ = some (.int .i64 pd) := by
                rw [World.cell?_of_block (hb2.block g2 (by omega)), World.cell?_of_block (hb1.block g2 (by omega))]; exact p0
              go_wp2
              go_quiet (fail)
              go_wp2
              go_ret
              exact ⟨rfl, by have hb := HB2.out; exact (by repeat' (first | (with_reducible exact Below.refl _ _) | (with_reducible refine Below.drew ?_) | (with_reducible refine belowDrewN ?_ _) | (with_reducible refine belowIter ?_ ?_ _ _) | (with_reducible refine Below.setCell ?_ ?_ _) | (with_reducible refine Below.alloc ?_ ?_ _) | (with_reducible refine Below.trans ?_ (Below.mono hb4 ?_)) | (with_reducible refine Below.trans ?_ (Below.mono hb3 ?_)) | (with_reducible refine Below.trans ?_ (Below.mono hb2 ?_)) | (with_reducible refine Below.trans ?_ (Below.mono hb1 ?_)) | (with_reducible refine Below.trans ?_ (Below.mono hbr ?_)) | (with_reducible refine Below.trans ?_ (Below.mono hb ?_)) | (simp; done) | (simp; omega) | omega))⟩
            rw [if_neg (fun h => heq (Option.some.inj h))] at hst
            have e5 : (d == pd) = false := by simpa using fun h => heq h.symm
            by_cases hun : d < pd
            · rw [if_pos (by simpa [underC] using hun)] at hst
              subst hst
              have e6 : decide (d < pd) = true := by simpa using hun
              clear heq hun
              go_wp2_with fail
              refine (HV.out _).mono ?_
              rintro e w1 ⟨rfl, hb1⟩
              have hz1 := hb1.size
              have HB1 := Lib.hid (hbr.trans (hb1.mono hzr))
              have t0 : w1.cell? ⟨g2, off2 + (j + 1) * 2, none⟩ = some (.int .i64 d) := (World.cell?_of_block (a := ⟨g2, off2 + (j + 1) * 2, none⟩) (hb1.block g2 (by omega))).trans c0
              have t1 : w1.cell? ⟨g2, off2 + (j + 1) * 2 + 1, none⟩ = some (.string ⟨x.toArray⟩) := (World.cell?_of_block (a := ⟨g2, off2 + (j + 1) * 2 + 1, none⟩) (hb1.block g2 (by omega))).trans c1
              go_wp2_with fail
              refine (HU.out _).mono ?_
              rintro e w2 ⟨rfl, hb2⟩
              have hz2 := hb2.size
              have HB2 := Lib.hid (HB1.out.trans (hb2.mono (by omega)))
              have s0 : w2.cell? ⟨g2, off2 + (j + 1) * 2, none⟩ = some (.int .i64 d) := (World.cell?_of_block (a := ⟨g2, off2 + (j + 1) * 2, none⟩) (hb2.block g2 (by omega))).trans t0
              have s1 : w2.cell? ⟨g2, off2 + (j + 1) * 2 + 1, none⟩ = some (.string ⟨x.toArray⟩) := (World.cell?_of_block (a := ⟨g2, off2 + (j + 1) * 2 + 1, none⟩) (hb2.block g2 (by omega))).trans t1
              have hgl : g2 < w2.heap.size := by omega
              have p2 : w2.cell? ⟨g2, off2 + j * 2, none⟩ = some (.int .i64 pd) := by
                rw [World.cell?_of_block (hb2.block g2 (by omega)), World.cell?_of_block (hb1.block g2 (by omega))]; exact p0
              go_wp2
              go_quiet (fail)
              go_wp2
              go_quiet (fail)
              go_wp2
              go_ret
              exact ⟨rfl, by have hb := HB2.out; exact (by repeat' (first | (with_reducible exact Below.refl _ _) | (with_reducible refine Below.drew ?_) | (with_reducible refine belowDrewN ?_ _) | (with_reducible refine belowIter ?_ ?_ _ _) | (with_reducible refine Below.setCell ?_ ?_ _) | (with_reducible refine Below.alloc ?_ ?_ _) | (with_reducible refine Below.trans ?_ (Below.mono hb4 ?_)) | (with_reducible refine Below.trans ?_ (Below.mono hb3 ?_)) | (with_reducible refine Below.trans ?_ (Below.mono hb2 ?_)) | (with_reducible refine Below.trans ?_ (Below.mono hb1 ?_)) | (with_reducible refine Below.trans ?_ (Below.mono hbr ?_)) | (with_reducible refine Below.trans ?_ (Below.mono hb ?_)) | (simp; done) | (simp; omega) | omega))⟩
            have HST := Lib.hid (show checkGo 65535 (prevC m (j + 1 + 1)) (m.drop (j + 1 + 1)) = R by rw [hst, if_neg (by simpa [underC] using hun)])
            have e6 : decide (d < pd) = false := by simpa using hun
            clear heq hun hst
            go_wp2_with fail
            refine (HV.out _).mono ?_
            rintro e w1 ⟨rfl, hb1⟩
            have hz1 := hb1.size
            have HB1 := Lib.hid (hbr.trans (hb1.mono hzr))
            have t0 : w1.cell? ⟨g2, off2 + (j + 1) * 2, none⟩ = some (.int .i64 d) := (World.cell?_of_block (a := ⟨g2, off2 + (j + 1) * 2, none⟩) (hb1.block g2 (by omega))).trans c0
            have t1 : w1.cell? ⟨g2, off2 + (j + 1) * 2 + 1, none⟩ = some (.string ⟨x.toArray⟩) := (World.cell?_of_block (a := ⟨g2, off2 + (j + 1) * 2 + 1, none⟩) (hb1.block g2 (by omega))).trans c1
            go_wp2_with fail
            refine (HU.out _).mono ?_
            rintro e w2 ⟨rfl, hb2⟩
            have hz2 := hb2.size
            have HB2 := Lib.hid (HB1.out.trans (hb2.mono (by omega)))
            have s0 : w2.cell? ⟨g2, off2 + (j + 1) * 2, none⟩ = some (.int .i64 d) := (World.cell?_of_block (a := ⟨g2, off2 + (j + 1) * 2, none⟩) (hb2.block g2 (by omega))).trans t0
            have s1 : w2.cell? ⟨g2, off2 + (j + 1) * 2 + 1, none⟩ = some (.string ⟨x.toArray⟩) := (World.cell?_of_block (a := ⟨g2, off2 + (j + 1) * 2 + 1, none⟩) (hb2.block g2 (by omega))).trans t1
            have hgl : g2 < w2.heap.size := by omega
            have p2 : w2.cell? ⟨g2, off2 + j * 2, none⟩ = some (.int .i64 pd) := by
              rw [World.cell?_of_block (hb2.block g2 (by omega)), World.cell?_of_block (hb1.block g2 (by omega))]; exact p0
            go_wp2
            go_quiet (fail)
            go_wp2
            go_quiet (fail)
            go_wp2
            go_roundw
            case rel => exact ⟨j + 1 + 1, by omega, by go_num, HST, by have hb := HB2.out; exact (by repeat' (first | (with_reducible exact Below.refl _ _) | (with_reducible refine Below.drew ?_) | (with_reducible refine belowDrewN ?_ _) | (with_reducible refine belowIter ?_ ?_ _ _) | (with_reducible refine Below.setCell ?_ ?_ _) | (with_reducible refine Below.alloc ?_ ?_ _) | (with_reducible refine Below.trans ?_ (Below.mono hb4 ?_)) | (with_reducible refine Below.trans ?_ (Below.mono hb3 ?_)) | (with_reducible refine Below.trans ?_ (Below.mono hb2 ?_)) | (with_reducible refine Below.trans ?_ (Below.mono hb1 ?_)) | (with_reducible refine Below.trans ?_ (Below.mono hbr ?_)) | (with_reducible refine Below.trans ?_ (Below.mono hb ?_)) | (simp; done) | (simp; omega) | omega))⟩
            case measure => simp [intOf]; omega
end Go.Proofs.YtibffdaljmmdoaaGreatDoor
/- The reference of the mapping layer: Text. -/
namespace Go.Proofs.YtibffdaljmmdoaaGreatDoor
open Go.RowKit Fo Go.Maps

def restC (wide : Bool) (m : CM) (k : Nat) : L := (startsAt k m.length).flatMap fun i => chunkL wide (chunkOf m i)
theorem restC_step {wide : Bool} {m : CM} {k : Nat} (h : k < m.length) : restC wide m k = chunkL wide (chunkOf m k) ++ restC wide m (k + 100) := by
  unfold restC; rw [startsAt_step h, List.flatMap_cons]
theorem restC_end {wide : Bool} {m : CM} {k : Nat} (h : m.length ≤ k) : restC wide m k = [] := by
  unfold restC; rw [startsAt_end h]; rfl
theorem body_split (m : CM) (wide : Bool) : bodyC m wide = headL wide ++ restC wide m 0 ++ [101, 110, 100, 99, 109, 97, 112, 10] := by
  unfold bodyC restC startsAt
  have h := starts_lines wide m (m.length + 1) 0
  rw [List.drop_zero] at h
  rw [← h]
  simp only [chunk_lines]
def rhead (wide : Bool) : L := if wide then [49, 32, 98, 101, 103, 105, 110, 99, 111, 100, 101, 115, 112, 97, 99, 101, 114, 97, 110, 103, 101, 10, 60, 48, 48, 48, 48, 62, 32, 60, 70, 70, 70, 70, 62, 10, 101, 110, 100, 99, 111, 100, 101, 115, 112, 97, 99, 101, 114, 97, 110, 103, 101, 10] else [49, 32, 98, 101, 103, 105, 110, 99, 111, 100, 101, 115, 112, 97, 99, 101, 114, 97, 110, 103, 101, 10, 60, 48, 48, 62, 32, 60, 70, 70, 62, 10, 101, 110, 100, 99, 111, 100, 101, 115, 112, 97, 99, 101, 114, 97, 110, 103, 101, 10]
theorem rhead_is (wide : Bool) : headL wide = rhead wide := by cases wide <;> decide
theorem app_eq {x y z : L} (h : x ++ y = z) : (⟨x.toArray⟩ : ByteArray) ++ ⟨y.toArray⟩ = ⟨z.toArray⟩ := by rw [← h]; simp [ByteArray.mk_append_mk]
theorem rhex_of (l x : L) (h : hexL l = x) (hl : l.length ≤ 1000000) (w : World) :
    Calls Tryz.prog 23 #[.string ⟨l.toArray⟩] w fun e w' => e = .returned (.string ⟨x.toArray⟩) ∧ Below w.heap.size w w' := by
  have := rhex_in ⟨l.toArray⟩ (by show l.length ≤ _; omega) w
  simp only [List.toList_toArray, h] at this
  exact this
theorem runits_of (l x : L) (h : unitsS l = x) (hl : l.length ≤ 1000000) (w : World) :
    Calls Tryz.prog 22 #[.string ⟨l.toArray⟩] w fun e w' => e = .returned (.string ⟨x.toArray⟩) ∧ Below w.heap.size w w' := by
  have := rUnits_in ⟨l.toArray⟩ (by show l.length ≤ _; omega) w
  simp only [List.toList_toArray, h] at this
  exact this
set_option maxRecDepth 100000 in
set_option maxHeartbeats 2000000 in
theorem rtext_bad (v : Value) (m : CM) (wide : Bool) (w : World) (k : Int) (hk : checkC m wide = k) (hk0 : k ≠ 0) (hv : MArg w v m) (hm : m.length ≤ 1000000) (hx : ∀ p ∈ m, p.2.length ≤ 1000000) :
    Calls Tryz.prog 16 #[v, .bool wide] w fun e w' => e = .returned (.tuple #[.string ⟨#[]⟩, .int .i64 k]) ∧ Below w.heap.size w w' := by
  have HC := Lib.hid (rcheck_in v m wide w hv hm hx)
  rw [hk] at HC
  have hk1 : (k != 0) = true := by simpa using hk0
  obtain ⟨p, c, rfl, _⟩ := hv
  obtain ⟨N, hN⟩ : ∃ N, m.length = N := ⟨_, rfl⟩
  rw [hN] at HC ⊢
  clear hk hk0 hN
  go_enter Tryz.func16, Tryz.ntmps16
  go_wp2_with fail
  refine HC.out.mono ?_
  rintro e w1 ⟨rfl, hb1⟩
  go_wp2
  go_ret2
  exact ⟨rfl, hb1⟩
set_option maxRecDepth 100000 in
set_option maxHeartbeats 2000000 in
theorem rtext_good (v : Value) (m : CM) (wide : Bool) (w : World) (hk : checkC m wide = 0) (hv : MArg w v m) (hm : m.length ≤ 1000000) (hx : ∀ p ∈ m, p.2.length ≤ 1000000) :
    Calls Tryz.prog 16 #[v, .bool wide] w fun e w' => e = .returned (.tuple #[.string ⟨(bodyC m wide).toArray⟩, .int .i64 0]) ∧ Below w.heap.size w w' := by
  have HC := Lib.hid (rcheck_in v m wide w hv hm hx)
  rw [hk] at HC
  obtain ⟨p, c, rfl, hcell⟩ := hv
  have HCL := Lib.hid hcell
  obtain ⟨N, hN⟩ : ∃ N, m.length = N := ⟨_, rfl⟩
  have hN4 : N ≤ 4096 := by
    unfold checkC at hk; split at hk
    · cases hk
    · omega
  have HSM := Lib.hid (show ∀ x ∈ m, 0 ≤ x.1 ∧ x.1 ≤ mostC wide ∧ (unitsS x.2).length ≤ 512 by
    unfold checkC at hk; split at hk
    · cases hk
    · exact checkGo_small _ _ _ hk)
  have HXL := Lib.hid hx
  have HN := Lib.hid hN
  have HBL := Lib.hid (body_len m wide (by omega) (fun x hx => (HSM.out x hx).2.2))
  have HSP := Lib.hid (body_split m wide)
  rw [hN] at HC ⊢
  obtain ⟨BB, hBB⟩ : ∃ b, bodyC m wide = b := ⟨_, rfl⟩
  rw [hBB] at HBL HSP
  rw [hBB]
  have HH := Lib.hid (rhead_is wide)
  clear hk hx hcell hBB hN hm
  go_enter Tryz.func16, Tryz.ntmps16
  go_wp2_with fail
  refine HC.out.mono ?_
  rintro e w1 ⟨rfl, hb1⟩
  have HB1 := Lib.hid hb1
  clear hb1
  go_upto_if 18 with fail
  go_cut [7] (fun s7 wx => s7 = .string ⟨(rhead wide).toArray⟩ ∧ wx = w1)
  case first =>
    clear HBL HSP HH HSM
    cases wide
    all_goals
      go_wp2_with fail
      go_meet
      exact ⟨rfl, rfl⟩
  case rest =>
    obtain ⟨rfl, rfl⟩ := hcut
    have hsp := HSP.out
    rw [HH.out] at hsp
    obtain ⟨H0, hH0⟩ : ∃ h, rhead wide = h := ⟨_, rfl⟩
    rw [hH0] at hsp
    rw [hH0]
    have HSP2 := Lib.hid hsp
    have HC2 := Lib.hid (show ∀ k (hk : k < m.length), ∃ g off, p = some ⟨g, off, none⟩ ∧ g < wc.heap.size ∧ wc.cell? ⟨g, off + k * 2, none⟩ = some (.int .i64 (m[k]).1) ∧ wc.cell? ⟨g, off + k * 2 + 1, none⟩ = some (.string ⟨(m[k]).2.toArray⟩) from fun k hk => by
      obtain ⟨g, off, e1, e2, e3, e4⟩ := HCL.out k hk
      have hz := HB1.out.size
      exact ⟨g, off, e1, by omega, (World.cell?_of_block (a := ⟨g, off + k * 2, none⟩) (HB1.out.block g e2)).trans e3, (World.cell?_of_block (a := ⟨g, off + k * 2 + 1, none⟩) (HB1.out.block g e2)).trans e4⟩)
    clear hsp hH0 HCL HC HH HSP
    go_wp2
    go_loopw [7, 8] (fun sv i wr => ∃ (k : Nat) (acc : L), k ≤ N + 100 ∧ i = .int .i64 k ∧ sv = .string ⟨acc.toArray⟩ ∧ Hid (BB = acc ++ restC wide m k ++ [101, 110, 100, 99, 109, 97, 112, 10]) ∧ Below wc.heap.size wc wr) (fun _ i _ => N + 100 - (intOf i).toNat)
    case atStart => exact ⟨0, H0, Nat.zero_le _, rfl, rfl, HSP2, Below.refl _ _⟩
    case round =>
      obtain ⟨k, acc, hk, rfl, rfl, HA, hbr⟩ := hrel
      have hzr := hbr.size
      have hal : acc.length ≤ 3000000000 := by
        have hh1 := congrArg List.length HA.out
        have hh2 := HBL.out
        simp only [List.length_append] at hh1
        omega
      by_cases hlk : k < N
      · obtain ⟨e, he⟩ : ∃ e, min 100 (N - k) = e := ⟨_, rfl⟩
        have hmin : min ((k : Int) + 100) (N : Int) = (k : Int) + e := by omega
        have hsub : (k : Int) + e - k = (e : Int) := by omega
        have he1 : e ≤ 100 := by omega
        have hke : k + e ≤ N := by omega
        have HE := Lib.hid he
        have hst := restC_step (wide := wide) (m := m) (k := k) (by rw [HN.out]; exact hlk)
        have hcl : (chunkOf m k).length = e := by have := HN.out; unfold chunkOf; simp; omega
        unfold chunkL at hst
        rw [hcl] at hst
        have hDg := fun W => rdig_in 5 e (by omega) (by decide) (by decide) W
        have hDl := decL_len 5 e
        obtain ⟨D, hD⟩ : ∃ D, decL 5 e = D := ⟨_, rfl⟩
        rw [hD] at hDg hDl hst
        have HDG := Lib.hid hDg
        obtain ⟨A1, q1⟩ : ∃ z, acc ++ D = z := ⟨_, rfl⟩
        obtain ⟨A2, q2⟩ : ∃ z, A1 ++ [32, 98, 101, 103, 105, 110, 98, 102, 99, 104, 97, 114, 10] = z := ⟨_, rfl⟩
        have E1 := app_eq q1
        have E2 := app_eq q2
        have n1 : A1.length ≤ 3000000005 := by rw [← q1]; simp; omega
        have m1 : acc.length + D.length ≤ 9223372036854775807 := by omega
        have m2 : A1.length + 13 ≤ 9223372036854775807 := by omega
        obtain ⟨rest, hrest⟩ : ∃ r, [101, 110, 100, 98, 102, 99, 104, 97, 114, 10] ++ restC wide m (k + 100) ++ [101, 110, 100, 99, 109, 97, 112, 10] = r := ⟨_, rfl⟩
        have HA2 := Lib.hid (show BB = A2 ++ ((chunkOf m k).drop (k - k)).flatMap (rowL wide) ++ rest by
          rw [HA.out, hst, ← hrest, ← q2, ← q1]; simp)
        have hA2l : A2.length ≤ 3000000000 := by
          have hh1 := congrArg List.length HA2.out
          have hh2 := HBL.out
          simp only [List.length_append] at hh1
          omega
        have HA2L := Lib.hid hA2l
        have HRS := Lib.hid hrest
        have HBR := Lib.hid hbr
        clear hst hcl hDg hD q1 q2 n1 hal HA hA2l hrest he
        go_wp2_with fail
        with_reducible refine (HDG.out _).mono ?_
        rintro e9 w2 ⟨rfl, hb2⟩
        have HB2 := Lib.hid (hbr.trans (hb2.mono hzr))
        clear hb2
        go_wp2
        go_loopw [7, 10] (fun sv i wr => ∃ (j : Nat) (accJ : L), k ≤ j ∧ j ≤ k + e ∧ i = .int .i64 j ∧ sv = .string ⟨accJ.toArray⟩ ∧ Hid (BB = accJ ++ ((chunkOf m k).drop (j - k)).flatMap (rowL wide) ++ rest) ∧ Hid (accJ.length ≤ 3000000000) ∧ Below wc.heap.size wc wr) (fun _ i _ => k + e - (intOf i).toNat)
        case atStart => exact ⟨k, A2, Nat.le_refl _, by omega, rfl, rfl, HA2, HA2L, HB2.out⟩
        case round =>
          obtain ⟨j, accJ, hj1, hj2, rfl, rfl, HJ, HJL, hbj⟩ := hrel
          have hzj := hbj.size
          by_cases hlj : j < k + e
          · have hjm : j < m.length := by rw [HN.out]; omega
            have hjN : j < N := by omega
            have hck : j - k < (chunkOf m k).length := by have := HE.out; have := HN.out; unfold chunkOf; simp; omega
            have hel : (chunkOf m k)[j - k] = m[j] := by
              simp only [chunkOf, List.getElem_take, List.getElem_drop]
              congr 1; omega
            obtain ⟨g, off, rfl, hg, d0, d1⟩ := HC2.out j hjm
            obtain ⟨hd0, hd1, hd2⟩ := HSM.out _ (List.getElem_mem hjm)
            have hxl := HXL.out _ (List.getElem_mem hjm)
            have hrow : rowL wide (m[j]) = shownL (codeB (m[j]).1.toNat wide) ++ [32] ++ shownL (unitsS (m[j]).2) ++ [10] := rfl
            have htk : ((chunkOf m k).take (j + 1 - k)).flatMap (rowL wide) = ((chunkOf m k).take (j - k)).flatMap (rowL wide) ++ rowL wide (m[j]) := by
              rw [show j + 1 - k = (j - k) + 1 by omega, List.take_succ_eq_append_getElem hck, hel, List.flatMap_append]
              simp
            obtain ⟨d, hd⟩ : ∃ d : Nat, (m[j]).1 = (d : Int) := ⟨(m[j]).1.toNat, by omega⟩
            obtain ⟨t, ht⟩ : ∃ t, (m[j]).2 = t := ⟨_, rfl⟩
            have hd6 : d < 65536 := by cases wide <;> simp [mostC] at hd1 <;> omega
            rw [hd, ht, Int.toNat_natCast] at hrow
            rw [ht] at d1 hd2 hxl
            rw [hd] at d0
            have c0 := (World.cell?_of_block (a := ⟨g, off + j * 2, none⟩) (hbj.block g hg)).trans d0
            have c1 := (World.cell?_of_block (a := ⟨g, off + j * 2 + 1, none⟩) (hbj.block g hg)).trans d1
            obtain ⟨cc, hcc⟩ : ∃ c, codeB d wide = c := ⟨_, rfl⟩
            have hccl : cc.length ≤ 2 := by rw [← hcc, codeB_len]; cases wide <;> simp [sizeC]
            rw [hcc] at hrow
            obtain ⟨u, hu⟩ : ∃ u, unitsS t = u := ⟨_, rfl⟩
            rw [hu] at hrow hd2
            unfold shownL at hrow
            obtain ⟨h1, hh1⟩ : ∃ h, hexL cc = h := ⟨_, rfl⟩
            obtain ⟨h2, hh2⟩ : ∃ h, hexL u = h := ⟨_, rfl⟩
            rw [hh1, hh2] at hrow
            have l1 : h1.length ≤ 4 := by rw [← hh1, hexL_len]; omega
            have l2 : h2.length ≤ 1024 := by rw [← hh2, hexL_len]; omega
            have HH1 := Lib.hid (fun W => rhex_of cc h1 hh1 (by omega) W)
            have HU := Lib.hid (fun W => runits_of t u hu (by omega) W)
            have HH2 := Lib.hid (fun W => rhex_of u h2 hh2 (by omega) W)
            obtain ⟨R1, q1⟩ : ∃ z, accJ ++ [60] = z := ⟨_, rfl⟩
            obtain ⟨R2, q2⟩ : ∃ z, R1 ++ h1 = z := ⟨_, rfl⟩
            obtain ⟨R3, q3⟩ : ∃ z, R2 ++ [62, 32, 60] = z := ⟨_, rfl⟩
            obtain ⟨R4, q4⟩ : ∃ z, R3 ++ h2 = z := ⟨_, rfl⟩
            obtain ⟨R5, q5⟩ : ∃ z, R4 ++ [62, 10] = z := ⟨_, rfl⟩
            have E1 := app_eq q1
            have E2 := app_eq q2
            have E3 := app_eq q3
            have E4 := app_eq q4
            have E5 := app_eq q5
            have hR5 : R5 = accJ ++ rowL wide (m[j]) := by rw [hrow, ← q5, ← q4, ← q3, ← q2, ← q1]; simp
            have hal : accJ.length ≤ 3000000000 := HJL.out
            have n1 : R1.length ≤ 3000000001 := by rw [← q1]; simp; omega
            have n2 : R2.length ≤ 3000000005 := by rw [← q2]; simp; omega
            have n3 : R3.length ≤ 3000000008 := by rw [← q3]; simp; omega
            have n4 : R4.length ≤ 3000001032 := by rw [← q4]; simp; omega
            have m1 : ¬ 9223372036854775807 < accJ.length + 1 := by omega
            have m2 : ¬ 9223372036854775807 < R1.length + h1.length := by omega
            have m3 : ¬ 9223372036854775807 < R2.length + 3 := by omega
            have m4 : ¬ 9223372036854775807 < R3.length + h2.length := by omega
            have m5 : ¬ 9223372036854775807 < R4.length + 2 := by omega
            have HR5 := Lib.hid (show BB = R5 ++ ((chunkOf m k).drop (j + 1 - k)).flatMap (rowL wide) ++ rest by
              rw [HJ.out, hR5]
              have hdr : (chunkOf m k).drop (j - k) = (m[j]) :: (chunkOf m k).drop (j + 1 - k) := by
                rw [List.drop_eq_getElem_cons hck, hel, show j - k + 1 = j + 1 - k by omega]
              rw [hdr, List.flatMap_cons]
              simp only [List.append_assoc])
            have hR5l : R5.length ≤ 3000000000 := by
              have hh8 := congrArg List.length HR5.out
              have hh2 := HBL.out
              simp only [List.length_append] at hh8
              omega
            have HR5L := Lib.hid hR5l
            obtain ⟨b1, hb1⟩ : ∃ b, UInt8.ofNat (d / 256) = b := ⟨_, rfl⟩
            obtain ⟨b2, hb2⟩ : ∃ b, UInt8.ofNat d = b := ⟨_, rfl⟩
            have hcv2 := fun W => conv2 W ((d : Int) / 256) ((d : Int) % 256) b1 b2 (by rw [← hb1]; simp; omega) (by rw [← hb2]; simp) 2
            have hcv3 : (Go.convert 41 9 (.slice (some ⟨wr.heap.size, 0, none⟩) 2 2)).run Tryz.prog (wr.alloc (.cells #[.int .u8 ((d : Int) / 256), .int .u8 ((d : Int) % 256)] 5)).drew = .ok (.string ⟨[b1, b2].toArray⟩) (wr.alloc (.cells #[.int .u8 ((d : Int) / 256), .int .u8 ((d : Int) % 256)] 5)).drew := hcv2 wr.drew
            have hex : (⟨[b1, b2].toArray⟩ : ByteArray).extract 1 2 = ⟨[b2].toArray⟩ := by apply ByteArray.ext; simp
            have hccb : cc = if wide then [b1, b2] else [b2] := by rw [← hcc, ← hb1, ← hb2]; cases wide <;> rfl
            have i4 : (d : Int) / 256 < 256 := by omega
            have i5 : (d : Int) % 256 < 256 := by omega
            have i6 : (0 : Int) ≤ (d : Int) / 256 := by omega
            have i7 : (0 : Int) ≤ (d : Int) % 256 := by omega
            have HB := Lib.hid hbj
            clear hrow htk hd ht hcc hu hh1 hh2 q1 q2 q3 q4 q5 hR5 hR5l hal n1 n2 n3 n4 d0 hd0 hd1 hd2 hb1 hb2 hel hbj hccl
            have ng1 : ¬ g = wr.heap.size := by have := HB.out.size; omega
            have ng2 : ¬ wr.heap.size = g := fun h => ng1 h.symm
            have hgl : g < wr.heap.size := by have := HB.out.size; omega
            have t1 : (d : Int).tdiv 256 = (d : Int) / 256 := Int.tdiv_eq_ediv_of_nonneg (by omega)
            have t2 : (d : Int).tmod 256 = (d : Int) % 256 := Int.tmod_eq_emod_of_nonneg (by omega)
            have t3 : IntKind.i64.wrap ((d : Int) / 256) = (d : Int) / 256 := IntWalk.i64_in _ (by omega)
            have t4 : IntKind.i64.wrap ((d : Int) % 256) = (d : Int) % 256 := IntWalk.i64_in _ (by omega)
            have t5 : IntKind.u8.wrap ((d : Int) / 256) = (d : Int) / 256 := IntWalk.u8_in _ ⟨by omega, by omega⟩
            have t6 : IntKind.u8.wrap ((d : Int) % 256) = (d : Int) % 256 := IntWalk.u8_in _ ⟨by omega, by omega⟩
            go_wp2
            go_region
            all_goals
              clear t1 t2 t3 t4 t5 t6 hcv2 hcv3 c0 c1 ng1 ng2 hgl i4 i5 i6 i7
              have HB5 := Lib.hid (show Below wc.heap.size wc (wr.alloc (.cells #[.int .u8 ((d : Int) / 256), .int .u8 ((d : Int) % 256)] 5)).drew.drew from ((HB.out.alloc HB.out.size _).drew).drew)
              obtain ⟨W5, hW5⟩ : ∃ W5, (wr.alloc (.cells #[.int .u8 ((d : Int) / 256), .int .u8 ((d : Int) % 256)] 5)).drew = W5 := ⟨_, rfl⟩
              rw [hW5] at HB5 ⊢
              clear hW5
              have k5 : W5.cell? ⟨g, off + j * 2 + 1, none⟩ = some (.string ⟨t.toArray⟩) := (HB5.out.cell (p := ⟨g, off + j * 2 + 1, none⟩) hg).trans d1
              cases wide
              · simp only [Bool.false_eq_true, if_false] at hccb
                subst hccb
                go_wp2_with fail
                go_region_held3 (fun w' => w'.cell? ⟨g, off + j * 2 + 1, none⟩ = some (.string ⟨t.toArray⟩)) (go_keep)
                  (first
                    | (go_at_call 23; first | ((with_reducible refine (HH1.out _).mono ?_); rintro e9 w9 ⟨rfl, hb⟩; replace HB5 := Lib.hid (HB5.out.trans (hb.mono HB5.out.size)); have k5 := (HB5.out.cell (p := ⟨g, off + j * 2 + 1, none⟩) hg).trans d1; clear hb) | ((with_reducible refine (HH2.out _).mono ?_); rintro e9 w9 ⟨rfl, hb⟩; replace HB5 := Lib.hid (HB5.out.trans (hb.mono HB5.out.size)); have k5 := (HB5.out.cell (p := ⟨g, off + j * 2 + 1, none⟩) hg).trans d1; clear hb))
                    | (go_at_call 22; ((with_reducible refine (HU.out _).mono ?_); rintro e9 w9 ⟨rfl, hb⟩; replace HB5 := Lib.hid (HB5.out.trans (hb.mono HB5.out.size)); have k5 := (HB5.out.cell (p := ⟨g, off + j * 2 + 1, none⟩) hg).trans d1; clear hb)))
                all_goals
                  go_wp2
                  go_roundw
                all_goals first
                  | (case rel => exact ⟨j + 1, R5, by omega, by omega, by go_num, rfl, HR5, HR5L, HB5.out⟩)
                  | (case measure => simp [intOf]; omega)
              · simp only [if_true] at hccb
                subst hccb
                go_wp2_with fail
                go_region_held3 (fun w' => w'.cell? ⟨g, off + j * 2 + 1, none⟩ = some (.string ⟨t.toArray⟩)) (go_keep)
                  (first
                    | (go_at_call 23; first | ((with_reducible refine (HH1.out _).mono ?_); rintro e9 w9 ⟨rfl, hb⟩; replace HB5 := Lib.hid (HB5.out.trans (hb.mono HB5.out.size)); have k5 := (HB5.out.cell (p := ⟨g, off + j * 2 + 1, none⟩) hg).trans d1; clear hb) | ((with_reducible refine (HH2.out _).mono ?_); rintro e9 w9 ⟨rfl, hb⟩; replace HB5 := Lib.hid (HB5.out.trans (hb.mono HB5.out.size)); have k5 := (HB5.out.cell (p := ⟨g, off + j * 2 + 1, none⟩) hg).trans d1; clear hb))
                    | (go_at_call 22; ((with_reducible refine (HU.out _).mono ?_); rintro e9 w9 ⟨rfl, hb⟩; replace HB5 := Lib.hid (HB5.out.trans (hb.mono HB5.out.size)); have k5 := (HB5.out.cell (p := ⟨g, off + j * 2 + 1, none⟩) hg).trans d1; clear hb)))
                all_goals
                  go_wp2
                  go_roundw
                all_goals first
                  | (case rel => exact ⟨j + 1, R5, by omega, by omega, by go_num, rfl, HR5, HR5L, HB5.out⟩)
                  | (case measure => simp [intOf]; omega)
          · obtain rfl : j = k + e := by omega
            have hdn : (chunkOf m k).drop (k + e - k) = [] := by
              rw [List.drop_eq_nil_iff]
              have := HE.out
              have := HN.out
              unfold chunkOf; simp; omega
            have hjl := HJL.out
            obtain ⟨A3, q3⟩ : ∃ z, accJ ++ [101, 110, 100, 98, 102, 99, 104, 97, 114, 10] = z := ⟨_, rfl⟩
            have E3 := app_eq q3
            have m3 : accJ.length + 10 ≤ 9223372036854775807 := by omega
            have HA3 := Lib.hid (show BB = A3 ++ restC wide m (k + 100) ++ [101, 110, 100, 99, 109, 97, 112, 10] by
              rw [HJ.out, hdn, ← HRS.out, ← q3]; simp)
            clear hdn q3 hjl
            go_wp2
            go_roundw
            case rel => exact ⟨k + 100, A3, by omega, by go_num, rfl, HA3, hbj⟩
            case measure => simp [intOf]; omega
      · have hend := restC_end (wide := wide) (m := m) (k := k) (by rw [HN.out]; omega)
        have q3 : acc ++ [101, 110, 100, 99, 109, 97, 112, 10] = BB := by rw [HA.out, hend]; simp
        have E3 := app_eq q3
        have m3 : acc.length + 8 ≤ 9223372036854775807 := by omega
        have HBB := Lib.hid (HB1.out.trans (hbr.mono HB1.out.size))
        clear hend q3 hal
        go_wp2
        go_ret2
        exact ⟨rfl, HBB.out⟩
theorem rtext_in (v : Value) (m : CM) (wide : Bool) (w : World) (hv : MArg w v m) (hm : m.length ≤ 1000000) (hx : ∀ p ∈ m, p.2.length ≤ 1000000) :
    Calls Tryz.prog 16 #[v, .bool wide] w fun e w' => WrR (writeC m wide) e ∧ Below w.heap.size w w' := by
  unfold writeC
  by_cases h : checkC m wide = 0
  · rw [if_pos h]; exact rtext_good v m wide w h hv hm hx
  · rw [if_neg h]; exact rtext_bad v m wide w _ rfl h hv hm hx
end Go.Proofs.YtibffdaljmmdoaaGreatDoor
