/- The walk of Text of the mapping layer, where the mapping can be written. -/
import Derived.Test.YtibffdaljmmdoaaGreatDoorGWr
set_option linter.all false
namespace Go.Proofs.YtibffdaljmmdoaaGreatDoor
open Go.RowKit Go.Shelf Fo
attribute [local go_sem] Oper.semAt_some

set_option maxRecDepth 100000 in
set_option maxHeartbeats 2000000 in
theorem wtext_good (v : Value) (m : CM) (wide : Bool) (w : World) (hk : checkC m wide = 0) (hv : MArg w v m) (hcap : MCap v) (hm : m.length ≤ 1000000) (hx : ∀ p ∈ m, p.2.length ≤ 1000000) (hT : TabsW w) :
    Calls Tryz.prog 15 #[v, .bool wide] w fun e w' => e = .returned (.tuple #[.string ⟨(bodyC m wide).toArray⟩, .int .i64 0]) ∧ Below w.heap.size w w' := by
  have HC := Lib.hid (fun W hv hT => check_in v m wide W hv hm hx hT)
  rw [hk] at HC
  obtain ⟨N, hN⟩ : ∃ N, m.length = N := ⟨_, rfl⟩
  have HA := Lib.hid hv
  obtain ⟨p, c, rfl, hcell⟩ := hv
  have HCL := Lib.hid hcell
  have hc1 := hcap _ _ _ rfl
  rw [hN] at HA HC hc1 hm ⊢
  have hN4 : N ≤ 4096 := by
    unfold checkC at hk; split at hk
    · cases hk
    · omega
  have HSM := Lib.hid (show ∀ x ∈ m, 0 ≤ x.1 ∧ x.1 ≤ mostC wide ∧ (unitsS x.2).length ≤ 512 by
    unfold checkC at hk; split at hk
    · cases hk
    · exact checkGo_small _ _ _ hk)
  have HXL := Lib.hid hx
  clear hk hx hcell
  have hB1 : ∀ W, Calls Tryz.prog 32 #[.int .i64 0, .bool wide] W fun e w' => e = .returned (.string ⟨(codeB 0 wide).toArray⟩) ∧ Below W.heap.size W w' := fun W => code_bytes 0 wide (by decide) W
  have hB2 : ∀ W, Calls Tryz.prog 32 #[.int .i64 65535, .bool wide] W fun e w' => e = .returned (.string ⟨(codeB 65535 wide).toArray⟩) ∧ Below W.heap.size W w' := fun W => code_bytes 65535 wide (by decide) W
  have hS1 := fun W => shown_in ⟨(codeB 0 wide).toArray⟩ (by show (codeB 0 wide).length ≤ _; cases wide <;> decide) W
  have hS2 := fun W => shown_in ⟨(codeB 65535 wide).toArray⟩ (by show (codeB 65535 wide).length ≤ _; cases wide <;> decide) W
  simp only [List.toList_toArray] at hS1 hS2
  have hl1 : (shownL (codeB 0 wide)).length ≤ 6 := by cases wide <;> decide
  have hl2 : (shownL (codeB 65535 wide)).length ≤ 6 := by cases wide <;> decide
  have HSP := Lib.hid (show spaceP wide = shownL (codeB 0 wide) ++ [32] ++ shownL (codeB 65535 wide) from rfl)
  obtain ⟨x1, hx1⟩ : ∃ x, codeB 0 wide = x := ⟨_, rfl⟩
  obtain ⟨x2, hx2⟩ : ∃ x, codeB 65535 wide = x := ⟨_, rfl⟩
  obtain ⟨y1, hy1⟩ : ∃ x, shownL (codeB 0 wide) = x := ⟨_, rfl⟩
  obtain ⟨y2, hy2⟩ : ∃ x, shownL (codeB 65535 wide) = x := ⟨_, rfl⟩
  rw [hy1] at hS1 hl1 HSP
  rw [hy2] at hS2 hl2 HSP
  rw [hx1] at hB1 hS1
  rw [hx2] at hB2 hS2
  have HB1 := Lib.hid hB1
  have HB2 := Lib.hid hB2
  have HS1 := Lib.hid hS1
  have HS2 := Lib.hid hS2
  clear hB1 hB2 hS1 hS2 hx1 hx2 hy1 hy2
  have g1 : y1.length + 1 ≤ 9223372036854775807 := by omega
  have g2 : y1.length + 1 + y2.length ≤ 9223372036854775807 := by omega
  have g3 : ¬ 9223372036854775807 < y1.length + 1 := by omega
  have g4 : ¬ 9223372036854775807 < y1.length + 1 + y2.length := by omega
  have HVS := Lib.hid (show ([.string ⟨#[49, 32, 98, 101, 103, 105, 110, 99, 111, 100, 101, 115, 112, 97, 99, 101, 114, 97, 110, 103, 101]⟩, .string (⟨y1.toArray⟩ ++ ⟨#[32]⟩ ++ ⟨y2.toArray⟩), .string ⟨#[101, 110, 100, 99, 111, 100, 101, 115, 112, 97, 99, 101, 114, 97, 110, 103, 101]⟩] : List Value) = (headP wide).map strV by
    unfold headP
    rw [HSP.out]
    simp [strV, p1L, p2L, ByteArray.mk_append_mk])
  refine (callsIn_wide (n := 6)).1 ?_
  have hro : Fence.wide.round = none := rfl
  refine callsIn_of_wp_marks Tryz.func15 rfl trivial ?_ hro
  simp only [Tryz.ntmps15, List.size_toArray, List.length_cons, List.length_nil, Nat.reduceAdd, Nat.reduceSub, Array.replicate_succ, Array.replicate_zero, List.push_toArray, List.append_toArray, List.nil_append, List.cons_append]
  gi_wp2_with (refine ⟨trivial, ?_⟩; gi_at_call 19; refine (callsIn_wide.2 (HC.out _ (HA.out.below (by repeat' (first | (with_reducible first | exact Below.refl _ _ | refine Below.drew ?_ | refine belowDrewN ?_ _ | refine belowIter ?_ ?_ _ _ | refine Below.setCell ?_ ?_ _ | refine Below.alloc ?_ ?_ _ | refine bT hb4 ?_ ?_ | refine bT hb3 ?_ ?_ | refine bT hb2 ?_ ?_ | refine bT hb1 ?_ ?_ | refine bT hbr ?_ ?_ | refine bT hb ?_ ?_) | (simp; done) | (simp; omega) | omega))) (hT.below (by repeat' (first | (with_reducible first | exact Below.refl _ _ | refine Below.drew ?_ | refine belowDrewN ?_ _ | refine belowIter ?_ ?_ _ _ | refine Below.setCell ?_ ?_ _ | refine Below.alloc ?_ ?_ _ | refine bT hb4 ?_ ?_ | refine bT hb3 ?_ ?_ | refine bT hb2 ?_ ?_ | refine bT hb1 ?_ ?_ | refine bT hbr ?_ ?_ | refine bT hb ?_ ?_) | (simp; done) | (simp; omega) | omega))))).mono ?_; rintro e w1 ⟨rfl, hb1⟩)
  obtain ⟨B0, hB0⟩ : ∃ B0, w.heap.size = B0 := ⟨_, rfl⟩
  have hz1 := hb1.size
  simp at hz1
  have c0 : w1.cell? ⟨w.heap.size, 0, none⟩ = some (.bool wide) := (World.cell?_of_block (a := ⟨w.heap.size, 0, none⟩) (hb1.block w.heap.size (by simp))).trans (by simp [go_sem])
  have hbx1 : Boxed w1 w.heap.size 4 (.bool wide) := (hb1.block w.heap.size (by simp)).trans (World.alloc_heap_new w _)
  have HBW := Lib.hid ((show Below w.heap.size w (w.alloc (.cells #[.bool wide] 4)) from (by repeat' (first | (with_reducible first | exact Below.refl _ _ | refine Below.drew ?_ | refine belowDrewN ?_ _ | refine belowIter ?_ ?_ _ _ | refine Below.setCell ?_ ?_ _ | refine Below.alloc ?_ ?_ _ | refine bT hb4 ?_ ?_ | refine bT hb3 ?_ ?_ | refine bT hb2 ?_ ?_ | refine bT hb1 ?_ ?_ | refine bT hbr ?_ ?_ | refine bT hb ?_ ?_) | (simp; done) | (simp; omega) | omega))).trans (hb1.mono (by simp)))
  rw [hB0] at c0 hbx1 hz1
  have hlt : B0 < w1.heap.size := by omega
  simp only [hB0]
  gi_cut [7] from 17 (fun s7 wc => ∃ g v, s7 = .pointer (some ⟨g, 0, none⟩) ∧ OutR w1 wide g v wc)
  case first =>
    refine wpIn_wide.2 ?_
    have HB5 := Lib.hid (show Below w1.heap.size w1 w1.drew from (Below.refl _ _).drew)
    have n1 : ¬ B0 = w1.heap.size := by omega
    have n1b : ¬ w1.heap.size = B0 := by omega
    have k0 : w1.drew.cell? ⟨B0, 0, none⟩ = some (.bool wide) := c0
    go_region_held3 (fun w' => w'.cell? ⟨B0, 0, none⟩ = some (.bool wide)) (go_keep)
      (first
        | (go_at_call 32; first | ((with_reducible refine (HB1.out _).mono ?_); rintro e w11 ⟨rfl, hb⟩; replace HB5 := Lib.hid ((show Below w1.heap.size w1 _ from by first | exact HB5.out | exact HB5.out.alloc HB5.out.size _).trans (hb.mono (by first | exact HB5.out.size | (have := HB5.out.size; first | (simp; done) | (simp; omega) | omega)))); have k0 := (HB5.out.cell (p := ⟨B0, 0, none⟩) hlt).trans c0; have s9 := HB5.out.size; have n1a : ¬ B0 = w11.heap.size := (by omega); have n1b : ¬ w11.heap.size = B0 := (by omega); have n1c : ¬ B0 = w11.heap.size + 1 := (by omega); have n1d : ¬ w11.heap.size + 1 = B0 := (by omega); obtain ⟨hc1, hf1⟩ := bcell hb; have hz1 := hb.size; (try simp at hz1); (try (have m1_1 : w1.heap.size < w11.heap.size := (by omega))); have hb1 := Lib.hid hb; clear hb) | ((with_reducible refine (HB2.out _).mono ?_); rintro e w13 ⟨rfl, hb⟩; replace HB5 := Lib.hid ((show Below w1.heap.size w1 _ from by first | exact HB5.out | exact HB5.out.alloc HB5.out.size _).trans (hb.mono (by first | exact HB5.out.size | (have := HB5.out.size; first | (simp; done) | (simp; omega) | omega)))); have k0 := (HB5.out.cell (p := ⟨B0, 0, none⟩) hlt).trans c0; have s9 := HB5.out.size; have n3a : ¬ B0 = w13.heap.size := (by omega); have n3b : ¬ w13.heap.size = B0 := (by omega); have n3c : ¬ B0 = w13.heap.size + 1 := (by omega); have n3d : ¬ w13.heap.size + 1 = B0 := (by omega); obtain ⟨hc3, hf3⟩ := bcell hb; have hz3 := hb.size; (try simp at hz3); (try (have m1_3 : w1.heap.size < w13.heap.size := (by omega))); (try (have m11_3 : w11.heap.size < w13.heap.size := (by omega))); (try (have m12_3 : w12.heap.size < w13.heap.size := (by omega))); have hb3 := Lib.hid hb; clear hb))
        | (go_at_call 31; first | ((with_reducible refine (HS1.out _).mono ?_); rintro e w12 ⟨rfl, hb⟩; replace HB5 := Lib.hid ((show Below w1.heap.size w1 _ from by first | exact HB5.out | exact HB5.out.alloc HB5.out.size _).trans (hb.mono (by first | exact HB5.out.size | (have := HB5.out.size; first | (simp; done) | (simp; omega) | omega)))); have k0 := (HB5.out.cell (p := ⟨B0, 0, none⟩) hlt).trans c0; have s9 := HB5.out.size; have n2a : ¬ B0 = w12.heap.size := (by omega); have n2b : ¬ w12.heap.size = B0 := (by omega); have n2c : ¬ B0 = w12.heap.size + 1 := (by omega); have n2d : ¬ w12.heap.size + 1 = B0 := (by omega); obtain ⟨hc2, hf2⟩ := bcell hb; have hz2 := hb.size; (try simp at hz2); (try (have m1_2 : w1.heap.size < w12.heap.size := (by omega))); (try (have m11_2 : w11.heap.size < w12.heap.size := (by omega))); have hb2 := Lib.hid hb; clear hb) | ((with_reducible refine (HS2.out _).mono ?_); rintro e w14 ⟨rfl, hb⟩; replace HB5 := Lib.hid ((show Below w1.heap.size w1 _ from by first | exact HB5.out | exact HB5.out.alloc HB5.out.size _).trans (hb.mono (by first | exact HB5.out.size | (have := HB5.out.size; first | (simp; done) | (simp; omega) | omega)))); have k0 := (HB5.out.cell (p := ⟨B0, 0, none⟩) hlt).trans c0; have s9 := HB5.out.size; have n4a : ¬ B0 = w14.heap.size := (by omega); have n4b : ¬ w14.heap.size = B0 := (by omega); have n4c : ¬ B0 = w14.heap.size + 1 := (by omega); have n4d : ¬ w14.heap.size + 1 = B0 := (by omega); obtain ⟨hc4, hf4⟩ := bcell hb; have hz4 := hb.size; (try simp at hz4); (try (have m1_4 : w1.heap.size < w14.heap.size := (by omega))); (try (have m11_4 : w11.heap.size < w14.heap.size := (by omega))); (try (have m12_4 : w12.heap.size < w14.heap.size := (by omega))); (try (have m13_4 : w13.heap.size < w14.heap.size := (by omega))); have hb4 := Lib.hid hb; clear hb)))
    all_goals go_wp2_with fail
    all_goals go_meet
    all_goals first
      | exact ⟨_, _, rfl, tleaf1 HB5.out _ HVS.out⟩
      | exact ⟨_, _, rfl, tleaf2 HB5.out _ HVS.out⟩
      | exact ⟨_, _, rfl, tleaf3 (by omega) (bxb (Boxed.new w13 _ _) hb4.out) HB5.out _ HVS.out⟩
      | exact ⟨_, _, rfl, tleaf3 (by omega) (bxb (bxb (Boxed.new w12 _ _) hb3.out) hb4.out) HB5.out _ HVS.out⟩
      | exact ⟨_, _, rfl, tleaf3 (by omega) (bxb (bxb (bxb (Boxed.new w11 _ _) hb2.out) hb3.out) hb4.out) HB5.out _ HVS.out⟩
      | exact ⟨_, _, rfl, tleaf3 (by omega) (bxb (bxb (bxb (bxb (show Boxed (w1.alloc _).drew w1.heap.size 65 _ from Boxed.new w1 _ _) hb1.out) hb2.out) hb3.out) hb4.out) HB5.out _ HVS.out⟩
  case rest =>
    obtain ⟨g, v, rfl, hg, hbx, hown, hbc⟩ := hcut
    clear HB1 HB2 HS1 HS2 HVS HSP hl1 hl2 g1 g2 g3 g4 c0
    gi_wp2_with (refine ⟨trivial, ?_⟩; gi_at_call 33; refine (chunk_in Fence.wide _ trivial hro _ _ _ _).mono ?_; rintro e w' ⟨rfl, rfl⟩)
    obtain ⟨z, hz⟩ : ∃ z, w1.heap.size = z := ⟨_, rfl⟩
    rw [hz] at hg hown hbc hlt
    have hzc : z ≤ wc.heap.size := by have := hbc.size; omega
    have gB := hbx.lt
    have x0 : Boxed wc B0 4 (.bool wide) := (hbc.block B0 hlt).trans hbx1
    have y0 := (x0.alloc (.cells #[.slice p N c] 23)).alloc (.cells #[.int .i64 100] 3)
    have y1 := (Boxed.new wc 23 (.slice p N c)).alloc (.cells #[.int .i64 100] 3)
    have y2 := Boxed.new (wc.alloc (.cells #[.slice p N c] 23)) 3 (.int .i64 100)
    simp only [World.size_alloc] at y2
    have hb2 : Below wc.heap.size wc ((wc.alloc (.cells #[.slice p N c] 23)).alloc (.cells #[.int .i64 100] 3)) := ((Below.refl _ _).alloc (Nat.le_refl _) _).alloc (by simp) _
    have y3 := bxb hbx hb2
    have y4 := cownS_below hown hb2
    have hbR := hbc.trans (hb2.mono hzc)
    obtain ⟨WR, hWR⟩ : ∃ WR, (wc.alloc (.cells #[.slice p N c] 23)).alloc (.cells #[.int .i64 100] 3) = WR := ⟨_, rfl⟩
    have hsR : WR.heap.size = wc.heap.size + 1 + 1 := by rw [← hWR]; simp
    rw [hWR] at y0 y1 y2 y3 y4 hbR
    rw [hWR]
    obtain ⟨B1, hB1⟩ : ∃ B1, wc.heap.size = B1 := ⟨_, rfl⟩
    rw [hB1] at y1 y2 hsR gB hzc
    rw [hB1]
    obtain ⟨B2, hB2⟩ : ∃ B2, B1 + 1 = B2 := ⟨_, rfl⟩
    rw [hB2] at y2 hsR
    rw [hB2]
    have n01 : B0 ≠ g := by omega
    have n1 : B1 ≠ g := by omega
    have n2 : B2 ≠ g := by omega
    obtain ⟨mg, moff, hpm⟩ : ∃ mg moff, 0 < N → p = some ⟨mg, moff, none⟩ := by
      rcases Nat.eq_zero_or_pos N with h | h
      · exact ⟨0, 0, fun h2 => by omega⟩
      · obtain ⟨a, b, h1, _⟩ := HCL.out 0 (by omega)
        exact ⟨a, b, fun _ => h1⟩
    have HM := Lib.hid (show ∀ k (hk : k < m.length), mg < w.heap.size ∧ w.cell? ⟨mg, moff + k * 2, none⟩ = some (.int .i64 (m[k]).1) ∧ w.cell? ⟨mg, moff + k * 2 + 1, none⟩ = some (.string ⟨(m[k]).2.toArray⟩) from fun k hk => by
      obtain ⟨a, b, h1, h2, h3, h4⟩ := HCL.out k hk
      rw [hpm (by omega)] at h1
      simp at h1
      obtain ⟨rfl, rfl⟩ := h1
      exact ⟨h2, h3, h4⟩)
    have HPM := Lib.hid hpm
    clear hpm HCL hWR hb2 hbx hown hbc x0 HC HA hcap hbx1 hb1 hB1
    refine wpIn_rangeFunc_ownG hro (by omega) (gf := 56) (lb := #[.pointer (some ⟨B1, 0, none⟩), .pointer (some ⟨B2, 0, none⟩)]) rfl trivial (enters_of Tryz.func56 (by kernel_rfl) rfl)
      (chunk_stops _ (by omega) B1 B2 z mg moff N c p hm hc1 HPM.out WR (by omega) (by omega) ⟨y1.cell, y2.cell⟩) (fun h k => h.trans k) (fun W l o o' hl ho h1 h2 => ⟨belowK_b (n₀ := z) (by omega) W l o o' hl ho h1 h2, World.putObj_heap_other (by omega), World.putObj_heap_other (by omega)⟩) (Below.refl _ _) (fun _ => rfl)
      (fun (pre : List Nat) W => ((∃ v, Boxed W g 65 v ∧ W.ownsRow z 9 1 v (outP wide m pre).length ((outP wide m pre).map strV) ∧ True) ∧ Boxed W B0 4 (.bool wide) ∧ Boxed W B1 23 (.slice p N c) ∧ Boxed W B2 3 (.int .i64 100)) ∧ Below z w1 W)
      (fun _ (_ : List Nat) (_ : World) => False)
      (OwnFrom.and (OwnFrom.and (Own.from (holdsRow_own z g 65 9 1 (fun pre => (outP wide m pre).length) (fun pre => (outP wide m pre).map strV) (fun _ _ => True)) _) (OwnFrom.and (Own.from (boxed_own _ _ _) _) (OwnFrom.and (Own.from (boxed_own _ _ _) _) (Own.from (boxed_own _ _ _) _)))) (ownFrom_below (by omega) (by omega)))
      (fun _ => fun _ _ _ _ h _ _ => h)
      ⟨⟨⟨_, y3, y4, trivial⟩, y0, y1, y2⟩, hbR⟩
      (fun x => { tmps := #[.slice p N c, .bool wide, undef, .pointer (some ⟨B0, 0, none⟩), .string ⟨#[]⟩, .int .i64 0, .int .i64 0, .pointer (some ⟨g, 0, none⟩), .slice (some ⟨mg, moff + x * 2, none⟩) (min 100 (N - x)) (min 100 (N - x)), undef, undef, .slice p N c, .bool wide, .int .i64 0, .int .i64 0, .bool false, undef, u17, u18, u19, u20, u21, u22, u23, u24, u25, .slice p N c, .func (.func 56) #[] #[.pointer (some ⟨B1, 0, none⟩), .pointer (some ⟨B2, 0, none⟩)], .slice (some ⟨mg, moff + x * 2, none⟩) (min 100 (N - x)) (min 100 (N - x)), u29, u30, u31, u32, u33, u34, u35, u36, u37, u38, u39, u40, u41, u42, u43, u44, u45, u46, u47, u48, u49, u50, u51, u52, u53, u54, u55, u56, u57, u58, u59, u60, u61, u62, u63], defers := [] }) ?assign ?body ?done ?stop
    case assign =>
      intro l x W K hK
      unfold encK
      gi_wp2
      exact hK
    case stop =>
      rintro D cd pre W hD hpre h
      exact h.elim
    case body =>
      rintro l pre x W ⟨⟨⟨v, hv, hrow, _⟩, b0, b1, b2⟩, hB⟩ hlt2
      obtain ⟨e, he⟩ : ∃ e, min 100 (N - x) = e := ⟨_, rfl⟩
      obtain ⟨ss0, hss0⟩ : ∃ s, outP wide m pre = s := ⟨_, rfl⟩
      rw [hss0] at hrow
      have hTB : TB W z g B0 B1 B2 wide p N c W v ss0 := ⟨hv, hrow, b0, b1, b2, TK.refl _ _ _ _⟩
      have HTB := Lib.hid hTB
      have cg := hv.cell
      have HSS := Lib.hid hss0
      have hzW : z ≤ W.heap.size := by have := hB.size; omega
      have HBZ := Lib.hid hB
      have hDg := fun W => cdig_in 5 e (by omega) (by decide) (by decide) W
      have hDl := decL_len 5 e
      obtain ⟨D, hD⟩ : ∃ D, decL 5 e = D := ⟨_, rfl⟩
      rw [hD] at hDg hDl
      have HDG := Lib.hid hDg
      have HDE := Lib.hid hD
      have gd : ¬ 9223372036854775807 < D.length + 12 := by omega
      obtain ⟨y, hy⟩ : ∃ y, D ++ p3L = y := ⟨_, rfl⟩
      have hstr : (⟨D.toArray⟩ : ByteArray) ++ ⟨#[32, 98, 101, 103, 105, 110, 98, 102, 99, 104, 97, 114]⟩ = ⟨y.toArray⟩ := by rw [← hy]; simp [p3L, ByteArray.mk_append_mk]
      have HY := Lib.hid hy
      have hsl : ss0.length ≤ 500000 := by have := outP_len wide m pre; rw [hss0] at this; omega
      have HW7 := Lib.hid ((HTB.out.below hzW (Below.refl _ _).drew))
      have c7 := HW7.out.box.cell
      clear hDg hD hTB hv hrow b0 b1 b2 hss0 hB hy
      gi_wp2
      gi_cut [] from 29 (fun wx => ∃ v', TB W z g B0 B1 B2 wide p N c wx v' (ss0 ++ [y]))
      case first =>
        refine region_round' (S := fun _ => True) (by kernel_rfl) (by kernel_rfl) trivial (fun hHeld => ?_)
        refine wpAnyH_take (i := 1) (v := ?_) (by simp only [List.getElem?_toArray, List.getElem?_cons_succ, List.getElem?_cons_zero]; rfl) (by kernel_rfl) (by kernel_rfl) (by kernel_rfl) (fun _ _ _ h => h) (Or.inl ⟨by rfl, ?_⟩) (by assumption) ?_
        rotate_left
        · intro w hSw
          (try dsimp only at hSw)
          (try go_split_ands)
          go_simp
          all_goals with_reducible rfl
        (try simp only [Act.put, List.setIfInBounds_toArray, List.set_cons_zero, List.set_cons_succ])
        refine wpAnyH_take (i := 2) (v := ?_) (by simp only [List.getElem?_toArray, List.getElem?_cons_succ, List.getElem?_cons_zero]; rfl) (by kernel_rfl) (by kernel_rfl) (by kernel_rfl) (fun _ _ _ h => h) (Or.inl ⟨by rfl, ?_⟩) (by assumption) ?_
        rotate_left
        · intro w hSw
          (try dsimp only at hSw)
          (try go_split_ands)
          go_simp
          all_goals with_reducible rfl
        (try simp only [Act.put, List.setIfInBounds_toArray, List.set_cons_zero, List.set_cons_succ])
        refine wpAnyH_ready (rs := [0, 3]) (by kernel_rfl) (by simp) ?_
        refine AllReadyH.cons (by simp only [List.getElem?_toArray, List.getElem?_cons_succ, List.getElem?_cons_zero]; rfl) (fun K hK => ?_) (AllReadyH.cons (by simp only [List.getElem?_toArray, List.getElem?_cons_succ, List.getElem?_cons_zero]; rfl) (fun K hK => ?_) AllReadyH.nil)
        · go_simp
          refine hK.out _ _ trivial (fun hHeld => ?_)
          clear hK K
          (try simp only [Act.put, List.setIfInBounds_toArray, List.set_cons_zero, List.set_cons_succ])
          refine wpAnyH_ready (rs := [3]) (by kernel_rfl) (by simp) ?_
          refine AllReadyH.cons (by simp only [List.getElem?_toArray, List.getElem?_cons_succ, List.getElem?_cons_zero]; rfl) (fun K hK => ?_) AllReadyH.nil
          go_simp
          go_at_call 34
          refine (HDG.out _).mono ?_
          rintro e9 w2 ⟨rfl, hb2⟩
          have HT2 := Lib.hid (HW7.out.below hzW hb2)
          have c2 := HT2.out.box.cell
          have s2 := HT2.out.size
          clear hb2
          go_wp2_with fail
          refine hK.out _ _ trivial (fun hHeld => ?_)
          clear hK K
          (try simp only [Act.put, List.setIfInBounds_toArray, List.set_cons_zero, List.set_cons_succ])
          refine wpAnyH_take (i := 4) (v := ?_) (by simp only [List.getElem?_toArray, List.getElem?_cons_succ, List.getElem?_cons_zero]; rfl) (by kernel_rfl) (by kernel_rfl) (by kernel_rfl) (fun _ _ _ h => h) (Or.inl ⟨by rfl, ?_⟩) (by assumption) ?_
          rotate_left
          · intro w hSw
            (try dsimp only at hSw)
            (try go_split_ands)
            go_simp
            all_goals with_reducible rfl
          (try simp only [Act.put, List.setIfInBounds_toArray, List.set_cons_zero, List.set_cons_succ])
          refine wpAnyH_ready (rs := [5]) (by kernel_rfl) (by simp) ?_
          refine AllReadyH.cons (by simp only [List.getElem?_toArray, List.getElem?_cons_succ, List.getElem?_cons_zero]; rfl) (fun K hK => ?_) AllReadyH.nil
          go_simp
          have HT3 := Lib.hid (HT2.out.below hzW ((Below.refl _ _).alloc (Nat.le_refl _) (.cells #[.string ⟨y.toArray⟩] 9)))
          have c3 := HT3.out.box.cell
          refine hK.out _ _ trivial (fun hHeld => ?_)
          clear hK K
          (try simp only [Act.put, List.setIfInBounds_toArray, List.set_cons_zero, List.set_cons_succ])
          refine wpAnyH_ready (rs := [6]) (by kernel_rfl) (by simp) ?_
          refine AllReadyH.cons (by simp only [List.getElem?_toArray, List.getElem?_cons_succ, List.getElem?_cons_zero]; rfl) (fun K hK => ?_) AllReadyH.nil
          rw [if_pos (by rfl)]
          refine push_wp (.tmp 29) (.tmp 34) rfl z v ss0 y HT2.out.own rfl rfl (by omega) (by omega) ?_
          intro p6 c6 w6 own6 grow6
          obtain ⟨bx6, HT6⟩ := HT2.out.pushed hzW hg n01 n1 n2 own6 grow6
          have cc6 := bx6.cell
          have ff6 := bx6.frozen
          refine hK.out _ _ trivial (fun hHeld => ?_)
          clear hK K
          (try simp only [Act.put, List.setIfInBounds_toArray, List.set_cons_zero, List.set_cons_succ])
          refine wpAnyH_ready (rs := [7]) (by kernel_rfl) (by simp) ?_
          refine AllReadyH.cons (by simp only [List.getElem?_toArray, List.getElem?_cons_succ, List.getElem?_cons_zero]; rfl) (fun K hK => ?_) AllReadyH.nil
          go_simp
          refine hK.out _ _ trivial (fun hHeld => ?_)
          clear hK K
          (try simp only [Act.put, List.setIfInBounds_toArray, List.set_cons_zero, List.set_cons_succ])
          refine wpAnyH_done (by kernel_rfl) ?_ _
          simp only [Nrm]
          gi_wp2_with fail
          gi_meet
          exact ⟨_, HT6⟩
        · go_simp
          go_at_call 34
          refine (HDG.out _).mono ?_
          rintro e9 w2 ⟨rfl, hb2⟩
          have HT2 := Lib.hid (HW7.out.below hzW hb2)
          have c2 := HT2.out.box.cell
          have s2 := HT2.out.size
          clear hb2
          go_wp2_with fail
          refine hK.out _ _ trivial (fun hHeld => ?_)
          clear hK K
          (try simp only [Act.put, List.setIfInBounds_toArray, List.set_cons_zero, List.set_cons_succ])
          refine wpAnyH_take (i := 4) (v := ?_) (by simp only [List.getElem?_toArray, List.getElem?_cons_succ, List.getElem?_cons_zero]; rfl) (by kernel_rfl) (by kernel_rfl) (by kernel_rfl) (fun _ _ _ h => h) (Or.inl ⟨by rfl, ?_⟩) (by assumption) ?_
          rotate_left
          · intro w hSw
            (try dsimp only at hSw)
            (try go_split_ands)
            go_simp
            all_goals with_reducible rfl
          (try simp only [Act.put, List.setIfInBounds_toArray, List.set_cons_zero, List.set_cons_succ])
          refine wpAnyH_ready (rs := [0, 5]) (by kernel_rfl) (by simp) ?_
          refine AllReadyH.cons (by simp only [List.getElem?_toArray, List.getElem?_cons_succ, List.getElem?_cons_zero]; rfl) (fun K hK => ?_) (AllReadyH.cons (by simp only [List.getElem?_toArray, List.getElem?_cons_succ, List.getElem?_cons_zero]; rfl) (fun K hK => ?_) AllReadyH.nil)
          · go_simp
            refine hK.out _ _ trivial (fun hHeld => ?_)
            clear hK K
            (try simp only [Act.put, List.setIfInBounds_toArray, List.set_cons_zero, List.set_cons_succ])
            refine wpAnyH_ready (rs := [5]) (by kernel_rfl) (by simp) ?_
            refine AllReadyH.cons (by simp only [List.getElem?_toArray, List.getElem?_cons_succ, List.getElem?_cons_zero]; rfl) (fun K hK => ?_) AllReadyH.nil
            go_simp
            have HT3 := Lib.hid (HT2.out.below hzW ((Below.refl _ _).alloc (Nat.le_refl _) (.cells #[.string ⟨y.toArray⟩] 9)))
            have c3 := HT3.out.box.cell
            refine hK.out _ _ trivial (fun hHeld => ?_)
            clear hK K
            (try simp only [Act.put, List.setIfInBounds_toArray, List.set_cons_zero, List.set_cons_succ])
            refine wpAnyH_ready (rs := [6]) (by kernel_rfl) (by simp) ?_
            refine AllReadyH.cons (by simp only [List.getElem?_toArray, List.getElem?_cons_succ, List.getElem?_cons_zero]; rfl) (fun K hK => ?_) AllReadyH.nil
            rw [if_pos (by rfl)]
            refine push_wp (.tmp 29) (.tmp 34) rfl z v ss0 y HT2.out.own rfl rfl (by omega) (by omega) ?_
            intro p6 c6 w6 own6 grow6
            obtain ⟨bx6, HT6⟩ := HT2.out.pushed hzW hg n01 n1 n2 own6 grow6
            have cc6 := bx6.cell
            have ff6 := bx6.frozen
            refine hK.out _ _ trivial (fun hHeld => ?_)
            clear hK K
            (try simp only [Act.put, List.setIfInBounds_toArray, List.set_cons_zero, List.set_cons_succ])
            refine wpAnyH_ready (rs := [7]) (by kernel_rfl) (by simp) ?_
            refine AllReadyH.cons (by simp only [List.getElem?_toArray, List.getElem?_cons_succ, List.getElem?_cons_zero]; rfl) (fun K hK => ?_) AllReadyH.nil
            go_simp
            refine hK.out _ _ trivial (fun hHeld => ?_)
            clear hK K
            (try simp only [Act.put, List.setIfInBounds_toArray, List.set_cons_zero, List.set_cons_succ])
            refine wpAnyH_done (by kernel_rfl) ?_ _
            simp only [Nrm]
            gi_wp2_with fail
            gi_meet
            exact ⟨_, HT6⟩
          · go_simp
            have HT3 := Lib.hid (HT2.out.below hzW ((Below.refl _ _).alloc (Nat.le_refl _) (.cells #[.string ⟨y.toArray⟩] 9)))
            have c3 := HT3.out.box.cell
            refine hK.out _ _ trivial (fun hHeld => ?_)
            clear hK K
            (try simp only [Act.put, List.setIfInBounds_toArray, List.set_cons_zero, List.set_cons_succ])
            refine wpAnyH_ready (rs := [0]) (by kernel_rfl) (by simp) ?_
            refine AllReadyH.cons (by simp only [List.getElem?_toArray, List.getElem?_cons_succ, List.getElem?_cons_zero]; rfl) (fun K hK => ?_) AllReadyH.nil
            go_simp
            refine hK.out _ _ trivial (fun hHeld => ?_)
            clear hK K
            (try simp only [Act.put, List.setIfInBounds_toArray, List.set_cons_zero, List.set_cons_succ])
            refine wpAnyH_ready (rs := [6]) (by kernel_rfl) (by simp) ?_
            refine AllReadyH.cons (by simp only [List.getElem?_toArray, List.getElem?_cons_succ, List.getElem?_cons_zero]; rfl) (fun K hK => ?_) AllReadyH.nil
            rw [if_pos (by rfl)]
            refine push_wp (.tmp 29) (.tmp 34) rfl z v ss0 y HT2.out.own rfl rfl (by omega) (by omega) ?_
            intro p6 c6 w6 own6 grow6
            obtain ⟨bx6, HT6⟩ := HT2.out.pushed hzW hg n01 n1 n2 own6 grow6
            have cc6 := bx6.cell
            have ff6 := bx6.frozen
            refine hK.out _ _ trivial (fun hHeld => ?_)
            clear hK K
            (try simp only [Act.put, List.setIfInBounds_toArray, List.set_cons_zero, List.set_cons_succ])
            refine wpAnyH_ready (rs := [7]) (by kernel_rfl) (by simp) ?_
            refine AllReadyH.cons (by simp only [List.getElem?_toArray, List.getElem?_cons_succ, List.getElem?_cons_zero]; rfl) (fun K hK => ?_) AllReadyH.nil
            go_simp
            refine hK.out _ _ trivial (fun hHeld => ?_)
            clear hK K
            (try simp only [Act.put, List.setIfInBounds_toArray, List.set_cons_zero, List.set_cons_succ])
            refine wpAnyH_done (by kernel_rfl) ?_ _
            simp only [Nrm]
            gi_wp2_with fail
            gi_meet
            exact ⟨_, HT6⟩
      case rest =>
        obtain ⟨v2, HT⟩ := hcut
        obtain ⟨ss1, hss1⟩ : ∃ s, ss0 ++ [y] = s := ⟨_, rfl⟩
        rw [hss1] at HT
        have hs1l : ss1.length ≤ 500001 := by rw [← hss1]; simp; omega
        have HS1 := Lib.hid hss1
        have HT1 := Lib.hid HT
        have HE := Lib.hid he
        clear hss1 HT he c7 hstr gd hDl HDG
        gi_wp2
        gi_loopw [38] (fun i wr => ∃ (k : Nat) (v3 : Value), k ≤ e ∧ i = .int .i64 k ∧ TB W z g B0 B1 B2 wide p N c wr v3 (ss1 ++ ((chunkOf m x).take k).map (rowP wide))) (fun i _ => e - (intOf i).toNat)
        case atStart => exact ⟨0, v2, Nat.zero_le _, rfl, by simpa using HT1.out⟩
        case round =>
          obtain ⟨k, v3, hk, rfl, HTr⟩ := hrel
          by_cases hlk : k < e
          · have hxk : x + k < m.length := by have := HE.out; omega
            have hck : k < (chunkOf m x).length := by have := HE.out; unfold chunkOf; simp; omega
            have hel : (chunkOf m x)[k] = m[x + k] := by simp only [chunkOf, List.getElem_take, List.getElem_drop]
            obtain ⟨hmg, m0, m1⟩ := HM.out (x + k) hxk
            have hbelow : Below w.heap.size w wr := HBW.out.trans ((HBZ.out.trans HTr.tk.keep.below).mono (by omega))
            have c0 : wr.cell? ⟨mg, moff + x * 2 + k * 2, none⟩ = some (.int .i64 (m[x + k]).1) := by
              rw [show moff + x * 2 + k * 2 = moff + (x + k) * 2 by omega, World.cell?_of_block (hbelow.block mg hmg)]; exact m0
            have c1 : wr.cell? ⟨mg, moff + x * 2 + k * 2 + 1, none⟩ = some (.string ⟨(m[x + k]).2.toArray⟩) := by
              rw [show moff + x * 2 + k * 2 = moff + (x + k) * 2 by omega, World.cell?_of_block (hbelow.block mg hmg)]; exact m1
            obtain ⟨hd0, hd1, hd2⟩ := HSM.out _ (List.getElem_mem hxk)
            have hxl := HXL.out _ (List.getElem_mem hxk)
            have hrow : rowP wide (m[x + k]) = shownL (codeB (m[x + k]).1.toNat wide) ++ [32] ++ shownL (unitsS (m[x + k]).2) := rfl
            have HTK := Lib.hid (show ss1 ++ ((chunkOf m x).take (k + 1)).map (rowP wide) = ss1 ++ ((chunkOf m x).take k).map (rowP wide) ++ [rowP wide (m[x + k])] by
              rw [List.take_succ_eq_append_getElem hck, hel, List.map_append, List.append_assoc]; rfl)
            obtain ⟨ssk, hssk⟩ : ∃ s, ss1 ++ ((chunkOf m x).take k).map (rowP wide) = s := ⟨_, rfl⟩
            have hskl : ssk.length ≤ 600000 := by rw [← hssk]; simp; omega
            rw [hssk] at HTr HTK
            obtain ⟨d, hd⟩ : ∃ d : Nat, (m[x + k]).1 = (d : Int) := ⟨(m[x + k]).1.toNat, by omega⟩
            obtain ⟨t, ht⟩ : ∃ t, (m[x + k]).2 = t := ⟨_, rfl⟩
            have hd6 : d < 65536 := by cases wide <;> simp [mostC] at hd1 <;> omega
            rw [ht] at c1 hd2 hxl
            rw [hd] at c0
            rw [hd, ht, Int.toNat_natCast] at hrow
            obtain ⟨yk, hyk⟩ : ∃ y, rowP wide (m[x + k]) = y := ⟨_, rfl⟩
            rw [hyk] at hrow HTK
            have hq1 := fun W => code_bytes d wide hd6 W
            have hl1 : (codeB d wide).length ≤ 2 := by rw [codeB_len]; cases wide <;> simp [sizeC]
            obtain ⟨q1, hq1e⟩ : ∃ q, codeB d wide = q := ⟨_, rfl⟩
            rw [hq1e] at hq1 hrow hl1
            have hr1 := fun W => shown_in ⟨q1.toArray⟩ (by show q1.length ≤ _; omega) W
            have hr1l : (shownL q1).length ≤ 100 := by unfold shownL; simp [hexL_len]; omega
            have hq2 := fun W => Units_in ⟨t.toArray⟩ (by show t.length ≤ _; omega) W
            simp only [List.toList_toArray] at hr1 hq2
            obtain ⟨q2, hq2e⟩ : ∃ q, unitsS t = q := ⟨_, rfl⟩
            rw [hq2e] at hq2 hrow hd2
            have hr2 := fun W => shown_in ⟨q2.toArray⟩ (by show q2.length ≤ _; omega) W
            have hr2l : (shownL q2).length ≤ 2000 := by unfold shownL; simp [hexL_len]; omega
            simp only [List.toList_toArray] at hr2
            obtain ⟨r1, hr1e⟩ : ∃ q, shownL q1 = q := ⟨_, rfl⟩
            obtain ⟨r2, hr2e⟩ : ∃ q, shownL q2 = q := ⟨_, rfl⟩
            rw [hr1e] at hr1 hrow hr1l
            rw [hr2e] at hr2 hrow hr2l
            have gs1 : ¬ 9223372036854775807 < r1.length + 1 := by omega
            have gs2 : ¬ 9223372036854775807 < r1.length + 1 + r2.length := by omega
            have hstr : (⟨r1.toArray⟩ : ByteArray) ++ ⟨#[32]⟩ ++ ⟨r2.toArray⟩ = ⟨yk.toArray⟩ := by rw [hrow]; simp [ByteArray.mk_append_mk]
            have HQ1 := Lib.hid hq1
            have HR1 := Lib.hid hr1
            have HQ2 := Lib.hid hq2
            have HR2 := Lib.hid hr2
            obtain ⟨xb, hxb⟩ : ∃ b, wr.heap.size = b := ⟨_, rfl⟩
            have hzr : z ≤ wr.heap.size := by have := HTr.size; omega
            have hxg : xb ≠ g := by have := HTr.box.lt; omega
            have hxne : some xb ≠ v3.ownBlock := by rw [← hxb]; exact own_ne HTr.own (Nat.le_refl _)
            have HXN := Lib.hid hxne
            have HA := Lib.hid (HTr.below (W' := (wr.alloc (.cells #[.int .i64 (d : Int), .string ⟨t.toArray⟩] 44)).drew) hzW ((Below.refl _ _).alloc (Nat.le_refl _) _).drew)
            have HXA := Lib.hid (show (wr.alloc (.cells #[.int .i64 (d : Int), .string ⟨t.toArray⟩] 44)).drew.heap[xb]? = some (.cells #[.int .i64 (d : Int), .string ⟨t.toArray⟩] 44) from hxb ▸ World.alloc_heap_new wr _)
            have HZA := Lib.hid (show z ≤ (wr.alloc (.cells #[.int .i64 (d : Int), .string ⟨t.toArray⟩] 44)).drew.heap.size by show z ≤ (wr.alloc _).heap.size; simp; omega)
            have cA := HA.out.box.cell
            clear hq1 hr1 hq2 hr2 hq1e hq2e hr1e hr2e hyk hrow hssk hxne hd ht hel m0 m1 hd0 hd1 hd2 hbelow HTr
            gi_wp2
            refine region_roundQ (S := fun w' => w'.cell? ⟨xb, 0, none⟩ = some (.int .i64 (d : Int)) ∧ w'.cell? ⟨xb, 1, none⟩ = some (.string ⟨t.toArray⟩) ∧ w'.cell? ⟨B0, 0, none⟩ = some (.bool wide)) (by kernel_rfl) (by kernel_rfl) (sx_of HXA.out HA.out.b0) (fun hHeld => ?_)
            refine wpAnyH_take (i := 1) (v := ?_) (by simp only [List.getElem?_toArray, List.getElem?_cons_succ, List.getElem?_cons_zero]; rfl) (by kernel_rfl) (by kernel_rfl) (by kernel_rfl) (fun _ _ _ h => h) (Or.inl ⟨by rfl, ?_⟩) (by assumption) ?_
            rotate_left
            · intro w hSw
              (try dsimp only at hSw)
              (try go_split_ands)
              go_simp
              all_goals with_reducible rfl
            (try simp only [Act.put, List.setIfInBounds_toArray, List.set_cons_zero, List.set_cons_succ])
            refine wpAnyH_take (i := 2) (v := ?_) (by simp only [List.getElem?_toArray, List.getElem?_cons_succ, List.getElem?_cons_zero]; rfl) (by kernel_rfl) (by kernel_rfl) (by kernel_rfl) (fun _ _ _ h => h) (Or.inl ⟨by rfl, ?_⟩) (by assumption) ?_
            rotate_left
            · intro w hSw
              (try dsimp only at hSw)
              (try go_split_ands)
              go_simp
              all_goals with_reducible rfl
            (try simp only [Act.put, List.setIfInBounds_toArray, List.set_cons_zero, List.set_cons_succ])
            refine wpAnyH_take (i := 3) (v := ?_) (by simp only [List.getElem?_toArray, List.getElem?_cons_succ, List.getElem?_cons_zero]; rfl) (by kernel_rfl) (by kernel_rfl) (by kernel_rfl) (fun _ _ _ h => h) (Or.inl ⟨by rfl, ?_⟩) (by assumption) ?_
            rotate_left
            · intro w hSw
              (try dsimp only at hSw)
              (try go_split_ands)
              go_simp
              all_goals with_reducible rfl
            (try simp only [Act.put, List.setIfInBounds_toArray, List.set_cons_zero, List.set_cons_succ])
            refine wpAnyH_take (i := 7) (v := ?_) (by simp only [List.getElem?_toArray, List.getElem?_cons_succ, List.getElem?_cons_zero]; rfl) (by kernel_rfl) (by kernel_rfl) (by kernel_rfl) (fun _ _ _ h => h) (Or.inl ⟨by rfl, ?_⟩) (by assumption) ?_
            rotate_left
            · intro w hSw
              (try dsimp only at hSw)
              (try go_split_ands)
              go_simp
              all_goals with_reducible rfl
            (try simp only [Act.put, List.setIfInBounds_toArray, List.set_cons_zero, List.set_cons_succ])
            refine wpAnyH_take (i := 8) (v := ?_) (by simp only [List.getElem?_toArray, List.getElem?_cons_succ, List.getElem?_cons_zero]; rfl) (by kernel_rfl) (by kernel_rfl) (by kernel_rfl) (fun _ _ _ h => h) (Or.inl ⟨by rfl, ?_⟩) (by assumption) ?_
            rotate_left
            · intro w hSw
              (try dsimp only at hSw)
              (try go_split_ands)
              go_simp
              all_goals with_reducible rfl
            (try simp only [Act.put, List.setIfInBounds_toArray, List.set_cons_zero, List.set_cons_succ])
            refine wpAnyH_ready (rs := [0, 4]) (by kernel_rfl) (by simp) ?_
            refine AllReadyH.cons (by simp only [List.getElem?_toArray, List.getElem?_cons_succ, List.getElem?_cons_zero]; rfl) (fun K hK => ?_) (AllReadyH.cons (by simp only [List.getElem?_toArray, List.getElem?_cons_succ, List.getElem?_cons_zero]; rfl) (fun K hK => ?_) AllReadyH.nil)
            · go_simp
              refine hK.out _ _ (sx_of HXA.out HA.out.b0) (fun hHeld => ?_)
              clear hK K
              (try simp only [Act.put, List.setIfInBounds_toArray, List.set_cons_zero, List.set_cons_succ])
              refine wpAnyH_ready (rs := [4]) (by kernel_rfl) (by simp) ?_
              refine AllReadyH.cons (by simp only [List.getElem?_toArray, List.getElem?_cons_succ, List.getElem?_cons_zero]; rfl) (fun K hK => ?_) AllReadyH.nil
              go_simp
              go_at_call 32
              refine (HQ1.out _).mono ?_
              rintro e9 w21 ⟨rfl, hb2⟩
              have HT21 := Lib.hid (HA.out.below hzW hb2)
              have HX21 := Lib.hid ((hb2.block xb (Array.getElem?_eq_some_iff.1 HXA.out).1).trans HXA.out)
              have c21 := HT21.out.box.cell
              have s21 := HT21.out.size
              clear hb2
              go_wp2_with fail
              refine hK.out _ _ (sx_of HX21.out HT21.out.b0) (fun hHeld => ?_)
              clear hK K
              (try simp only [Act.put, List.setIfInBounds_toArray, List.set_cons_zero, List.set_cons_succ])
              refine wpAnyH_ready (rs := [5]) (by kernel_rfl) (by simp) ?_
              refine AllReadyH.cons (by simp only [List.getElem?_toArray, List.getElem?_cons_succ, List.getElem?_cons_zero]; rfl) (fun K hK => ?_) AllReadyH.nil
              go_simp
              go_at_call 31
              refine (HR1.out _).mono ?_
              rintro e9 w22 ⟨rfl, hb2⟩
              have HT22 := Lib.hid (HT21.out.below hzW hb2)
              have HX22 := Lib.hid ((hb2.block xb (Array.getElem?_eq_some_iff.1 HX21.out).1).trans HX21.out)
              have c22 := HT22.out.box.cell
              have s22 := HT22.out.size
              clear hb2
              go_wp2_with fail
              refine hK.out _ _ (sx_of HX22.out HT22.out.b0) (fun hHeld => ?_)
              clear hK K
              (try simp only [Act.put, List.setIfInBounds_toArray, List.set_cons_zero, List.set_cons_succ])
              refine wpAnyH_take (i := 6) (v := ?_) (by simp only [List.getElem?_toArray, List.getElem?_cons_succ, List.getElem?_cons_zero]; rfl) (by kernel_rfl) (by kernel_rfl) (by kernel_rfl) (fun _ _ _ h => h) (Or.inl ⟨by rfl, ?_⟩) (by assumption) ?_
              rotate_left
              · intro w hSw
                (try dsimp only at hSw)
                (try go_split_ands)
                go_simp
                all_goals with_reducible rfl
              (try simp only [Act.put, List.setIfInBounds_toArray, List.set_cons_zero, List.set_cons_succ])
              refine wpAnyH_ready (rs := [9]) (by kernel_rfl) (by simp) ?_
              refine AllReadyH.cons (by simp only [List.getElem?_toArray, List.getElem?_cons_succ, List.getElem?_cons_zero]; rfl) (fun K hK => ?_) AllReadyH.nil
              go_simp
              go_at_call 21
              refine (HQ2.out _).mono ?_
              rintro e9 w23 ⟨rfl, hb2⟩
              have HT23 := Lib.hid (HT22.out.below hzW hb2)
              have HX23 := Lib.hid ((hb2.block xb (Array.getElem?_eq_some_iff.1 HX22.out).1).trans HX22.out)
              have c23 := HT23.out.box.cell
              have s23 := HT23.out.size
              clear hb2
              go_wp2_with fail
              refine hK.out _ _ (sx_of HX23.out HT23.out.b0) (fun hHeld => ?_)
              clear hK K
              (try simp only [Act.put, List.setIfInBounds_toArray, List.set_cons_zero, List.set_cons_succ])
              refine wpAnyH_ready (rs := [10]) (by kernel_rfl) (by simp) ?_
              refine AllReadyH.cons (by simp only [List.getElem?_toArray, List.getElem?_cons_succ, List.getElem?_cons_zero]; rfl) (fun K hK => ?_) AllReadyH.nil
              go_simp
              go_at_call 31
              refine (HR2.out _).mono ?_
              rintro e9 w24 ⟨rfl, hb2⟩
              have HT24 := Lib.hid (HT23.out.below hzW hb2)
              have HX24 := Lib.hid ((hb2.block xb (Array.getElem?_eq_some_iff.1 HX23.out).1).trans HX23.out)
              have c24 := HT24.out.box.cell
              have s24 := HT24.out.size
              clear hb2
              go_wp2_with fail
              refine hK.out _ _ (sx_of HX24.out HT24.out.b0) (fun hHeld => ?_)
              clear hK K
              (try simp only [Act.put, List.setIfInBounds_toArray, List.set_cons_zero, List.set_cons_succ])
              refine wpAnyH_take (i := 11) (v := ?_) (by simp only [List.getElem?_toArray, List.getElem?_cons_succ, List.getElem?_cons_zero]; rfl) (by kernel_rfl) (by kernel_rfl) (by kernel_rfl) (fun _ _ _ h => h) (Or.inl ⟨by rfl, ?_⟩) (by assumption) ?_
              rotate_left
              · intro w hSw
                (try dsimp only at hSw)
                (try go_split_ands)
                go_simp
                all_goals with_reducible rfl
              (try simp only [Act.put, List.setIfInBounds_toArray, List.set_cons_zero, List.set_cons_succ])
              refine wpAnyH_ready (rs := [12]) (by kernel_rfl) (by simp) ?_
              refine AllReadyH.cons (by simp only [List.getElem?_toArray, List.getElem?_cons_succ, List.getElem?_cons_zero]; rfl) (fun K hK => ?_) AllReadyH.nil
              go_simp
              have HT3 := Lib.hid (HT24.out.below hzW ((Below.refl _ _).alloc (Nat.le_refl _) (.cells #[.string ⟨yk.toArray⟩] 9)))
              have HX3 := Lib.hid ((Below.heap_alloc w24 (.cells #[.string ⟨yk.toArray⟩] 9) xb (Array.getElem?_eq_some_iff.1 HX24.out).1).trans HX24.out)
              have c3 := HT3.out.box.cell
              refine hK.out _ _ (sx_of HX3.out HT3.out.b0) (fun hHeld => ?_)
              clear hK K
              (try simp only [Act.put, List.setIfInBounds_toArray, List.set_cons_zero, List.set_cons_succ])
              refine wpAnyH_ready (rs := [13]) (by kernel_rfl) (by simp) ?_
              refine AllReadyH.cons (by simp only [List.getElem?_toArray, List.getElem?_cons_succ, List.getElem?_cons_zero]; rfl) (fun K hK => ?_) AllReadyH.nil
              rw [if_pos (by rfl)]
              refine push_wp (.tmp 42) (.tmp 54) rfl z v3 ssk yk HT24.out.own rfl rfl (by omega) (by omega) ?_
              intro p6 c6 w6 own6 grow6
              obtain ⟨bx6, HT6⟩ := HT24.out.pushed hzW hg n01 n1 n2 own6 grow6
              obtain ⟨HX6, HX7⟩ := HT24.out.pushed_block (v' := .slice p6 (ssk.length + 1) c6) grow6 HX24.out HXN.out hxg
              have HB6 := ((HT24.out.b0.alloc (.cells #[.string ⟨yk.toArray⟩] 9)).kept grow6 (HT24.out.b0.not_row (by decide) HT24.out.own))
              have cc6 := bx6.cell
              have ff6 := bx6.frozen
              refine hK.out _ _ (sx_of HX6 HB6) (fun hHeld => ?_)
              clear hK K
              (try simp only [Act.put, List.setIfInBounds_toArray, List.set_cons_zero, List.set_cons_succ])
              refine wpAnyH_ready (rs := [14]) (by kernel_rfl) (by simp) ?_
              refine AllReadyH.cons (by simp only [List.getElem?_toArray, List.getElem?_cons_succ, List.getElem?_cons_zero]; rfl) (fun K hK => ?_) AllReadyH.nil
              go_simp
              refine hK.out _ _ (sx_of HX7 HT6.b0) (fun hHeld => ?_)
              clear hK K
              (try simp only [Act.put, List.setIfInBounds_toArray, List.set_cons_zero, List.set_cons_succ])
              refine wpAnyH_done (by kernel_rfl) ?_ _
              simp only [NrmQ]
              gi_wp2
              go_roundw
              case rel => exact ⟨k + 1, _, by omega, by go_num, by rw [HTK.out]; exact HT6⟩
              case measure => simp [intOf]; omega
            · go_simp
              go_at_call 32
              refine (HQ1.out _).mono ?_
              rintro e9 w21 ⟨rfl, hb2⟩
              have HT21 := Lib.hid (HA.out.below hzW hb2)
              have HX21 := Lib.hid ((hb2.block xb (Array.getElem?_eq_some_iff.1 HXA.out).1).trans HXA.out)
              have c21 := HT21.out.box.cell
              have s21 := HT21.out.size
              clear hb2
              go_wp2_with fail
              refine hK.out _ _ (sx_of HX21.out HT21.out.b0) (fun hHeld => ?_)
              clear hK K
              (try simp only [Act.put, List.setIfInBounds_toArray, List.set_cons_zero, List.set_cons_succ])
              refine wpAnyH_ready (rs := [0, 5]) (by kernel_rfl) (by simp) ?_
              refine AllReadyH.cons (by simp only [List.getElem?_toArray, List.getElem?_cons_succ, List.getElem?_cons_zero]; rfl) (fun K hK => ?_) (AllReadyH.cons (by simp only [List.getElem?_toArray, List.getElem?_cons_succ, List.getElem?_cons_zero]; rfl) (fun K hK => ?_) AllReadyH.nil)
              · go_simp
                refine hK.out _ _ (sx_of HX21.out HT21.out.b0) (fun hHeld => ?_)
                clear hK K
                (try simp only [Act.put, List.setIfInBounds_toArray, List.set_cons_zero, List.set_cons_succ])
                refine wpAnyH_ready (rs := [5]) (by kernel_rfl) (by simp) ?_
                refine AllReadyH.cons (by simp only [List.getElem?_toArray, List.getElem?_cons_succ, List.getElem?_cons_zero]; rfl) (fun K hK => ?_) AllReadyH.nil
                go_simp
                go_at_call 31
                refine (HR1.out _).mono ?_
                rintro e9 w22 ⟨rfl, hb2⟩
                have HT22 := Lib.hid (HT21.out.below hzW hb2)
                have HX22 := Lib.hid ((hb2.block xb (Array.getElem?_eq_some_iff.1 HX21.out).1).trans HX21.out)
                have c22 := HT22.out.box.cell
                have s22 := HT22.out.size
                clear hb2
                go_wp2_with fail
                refine hK.out _ _ (sx_of HX22.out HT22.out.b0) (fun hHeld => ?_)
                clear hK K
                (try simp only [Act.put, List.setIfInBounds_toArray, List.set_cons_zero, List.set_cons_succ])
                refine wpAnyH_take (i := 6) (v := ?_) (by simp only [List.getElem?_toArray, List.getElem?_cons_succ, List.getElem?_cons_zero]; rfl) (by kernel_rfl) (by kernel_rfl) (by kernel_rfl) (fun _ _ _ h => h) (Or.inl ⟨by rfl, ?_⟩) (by assumption) ?_
                rotate_left
                · intro w hSw
                  (try dsimp only at hSw)
                  (try go_split_ands)
                  go_simp
                  all_goals with_reducible rfl
                (try simp only [Act.put, List.setIfInBounds_toArray, List.set_cons_zero, List.set_cons_succ])
                refine wpAnyH_ready (rs := [9]) (by kernel_rfl) (by simp) ?_
                refine AllReadyH.cons (by simp only [List.getElem?_toArray, List.getElem?_cons_succ, List.getElem?_cons_zero]; rfl) (fun K hK => ?_) AllReadyH.nil
                go_simp
                go_at_call 21
                refine (HQ2.out _).mono ?_
                rintro e9 w23 ⟨rfl, hb2⟩
                have HT23 := Lib.hid (HT22.out.below hzW hb2)
                have HX23 := Lib.hid ((hb2.block xb (Array.getElem?_eq_some_iff.1 HX22.out).1).trans HX22.out)
                have c23 := HT23.out.box.cell
                have s23 := HT23.out.size
                clear hb2
                go_wp2_with fail
                refine hK.out _ _ (sx_of HX23.out HT23.out.b0) (fun hHeld => ?_)
                clear hK K
                (try simp only [Act.put, List.setIfInBounds_toArray, List.set_cons_zero, List.set_cons_succ])
                refine wpAnyH_ready (rs := [10]) (by kernel_rfl) (by simp) ?_
                refine AllReadyH.cons (by simp only [List.getElem?_toArray, List.getElem?_cons_succ, List.getElem?_cons_zero]; rfl) (fun K hK => ?_) AllReadyH.nil
                go_simp
                go_at_call 31
                refine (HR2.out _).mono ?_
                rintro e9 w24 ⟨rfl, hb2⟩
                have HT24 := Lib.hid (HT23.out.below hzW hb2)
                have HX24 := Lib.hid ((hb2.block xb (Array.getElem?_eq_some_iff.1 HX23.out).1).trans HX23.out)
                have c24 := HT24.out.box.cell
                have s24 := HT24.out.size
                clear hb2
                go_wp2_with fail
                refine hK.out _ _ (sx_of HX24.out HT24.out.b0) (fun hHeld => ?_)
                clear hK K
                (try simp only [Act.put, List.setIfInBounds_toArray, List.set_cons_zero, List.set_cons_succ])
                refine wpAnyH_take (i := 11) (v := ?_) (by simp only [List.getElem?_toArray, List.getElem?_cons_succ, List.getElem?_cons_zero]; rfl) (by kernel_rfl) (by kernel_rfl) (by kernel_rfl) (fun _ _ _ h => h) (Or.inl ⟨by rfl, ?_⟩) (by assumption) ?_
                rotate_left
                · intro w hSw
                  (try dsimp only at hSw)
                  (try go_split_ands)
                  go_simp
                  all_goals with_reducible rfl
                (try simp only [Act.put, List.setIfInBounds_toArray, List.set_cons_zero, List.set_cons_succ])
                refine wpAnyH_ready (rs := [12]) (by kernel_rfl) (by simp) ?_
                refine AllReadyH.cons (by simp only [List.getElem?_toArray, List.getElem?_cons_succ, List.getElem?_cons_zero]; rfl) (fun K hK => ?_) AllReadyH.nil
                go_simp
                have HT3 := Lib.hid (HT24.out.below hzW ((Below.refl _ _).alloc (Nat.le_refl _) (.cells #[.string ⟨yk.toArray⟩] 9)))
                have HX3 := Lib.hid ((Below.heap_alloc w24 (.cells #[.string ⟨yk.toArray⟩] 9) xb (Array.getElem?_eq_some_iff.1 HX24.out).1).trans HX24.out)
                have c3 := HT3.out.box.cell
                refine hK.out _ _ (sx_of HX3.out HT3.out.b0) (fun hHeld => ?_)
                clear hK K
                (try simp only [Act.put, List.setIfInBounds_toArray, List.set_cons_zero, List.set_cons_succ])
                refine wpAnyH_ready (rs := [13]) (by kernel_rfl) (by simp) ?_
                refine AllReadyH.cons (by simp only [List.getElem?_toArray, List.getElem?_cons_succ, List.getElem?_cons_zero]; rfl) (fun K hK => ?_) AllReadyH.nil
                rw [if_pos (by rfl)]
                refine push_wp (.tmp 42) (.tmp 54) rfl z v3 ssk yk HT24.out.own rfl rfl (by omega) (by omega) ?_
                intro p6 c6 w6 own6 grow6
                obtain ⟨bx6, HT6⟩ := HT24.out.pushed hzW hg n01 n1 n2 own6 grow6
                obtain ⟨HX6, HX7⟩ := HT24.out.pushed_block (v' := .slice p6 (ssk.length + 1) c6) grow6 HX24.out HXN.out hxg
                have HB6 := ((HT24.out.b0.alloc (.cells #[.string ⟨yk.toArray⟩] 9)).kept grow6 (HT24.out.b0.not_row (by decide) HT24.out.own))
                have cc6 := bx6.cell
                have ff6 := bx6.frozen
                refine hK.out _ _ (sx_of HX6 HB6) (fun hHeld => ?_)
                clear hK K
                (try simp only [Act.put, List.setIfInBounds_toArray, List.set_cons_zero, List.set_cons_succ])
                refine wpAnyH_ready (rs := [14]) (by kernel_rfl) (by simp) ?_
                refine AllReadyH.cons (by simp only [List.getElem?_toArray, List.getElem?_cons_succ, List.getElem?_cons_zero]; rfl) (fun K hK => ?_) AllReadyH.nil
                go_simp
                refine hK.out _ _ (sx_of HX7 HT6.b0) (fun hHeld => ?_)
                clear hK K
                (try simp only [Act.put, List.setIfInBounds_toArray, List.set_cons_zero, List.set_cons_succ])
                refine wpAnyH_done (by kernel_rfl) ?_ _
                simp only [NrmQ]
                gi_wp2
                go_roundw
                case rel => exact ⟨k + 1, _, by omega, by go_num, by rw [HTK.out]; exact HT6⟩
                case measure => simp [intOf]; omega
              · go_simp
                go_at_call 31
                refine (HR1.out _).mono ?_
                rintro e9 w22 ⟨rfl, hb2⟩
                have HT22 := Lib.hid (HT21.out.below hzW hb2)
                have HX22 := Lib.hid ((hb2.block xb (Array.getElem?_eq_some_iff.1 HX21.out).1).trans HX21.out)
                have c22 := HT22.out.box.cell
                have s22 := HT22.out.size
                clear hb2
                go_wp2_with fail
                refine hK.out _ _ (sx_of HX22.out HT22.out.b0) (fun hHeld => ?_)
                clear hK K
                (try simp only [Act.put, List.setIfInBounds_toArray, List.set_cons_zero, List.set_cons_succ])
                refine wpAnyH_take (i := 6) (v := ?_) (by simp only [List.getElem?_toArray, List.getElem?_cons_succ, List.getElem?_cons_zero]; rfl) (by kernel_rfl) (by kernel_rfl) (by kernel_rfl) (fun _ _ _ h => h) (Or.inl ⟨by rfl, ?_⟩) (by assumption) ?_
                rotate_left
                · intro w hSw
                  (try dsimp only at hSw)
                  (try go_split_ands)
                  go_simp
                  all_goals with_reducible rfl
                (try simp only [Act.put, List.setIfInBounds_toArray, List.set_cons_zero, List.set_cons_succ])
                refine wpAnyH_ready (rs := [0, 9]) (by kernel_rfl) (by simp) ?_
                refine AllReadyH.cons (by simp only [List.getElem?_toArray, List.getElem?_cons_succ, List.getElem?_cons_zero]; rfl) (fun K hK => ?_) (AllReadyH.cons (by simp only [List.getElem?_toArray, List.getElem?_cons_succ, List.getElem?_cons_zero]; rfl) (fun K hK => ?_) AllReadyH.nil)
                · go_simp
                  refine hK.out _ _ (sx_of HX22.out HT22.out.b0) (fun hHeld => ?_)
                  clear hK K
                  (try simp only [Act.put, List.setIfInBounds_toArray, List.set_cons_zero, List.set_cons_succ])
                  refine wpAnyH_ready (rs := [9]) (by kernel_rfl) (by simp) ?_
                  refine AllReadyH.cons (by simp only [List.getElem?_toArray, List.getElem?_cons_succ, List.getElem?_cons_zero]; rfl) (fun K hK => ?_) AllReadyH.nil
                  go_simp
                  go_at_call 21
                  refine (HQ2.out _).mono ?_
                  rintro e9 w23 ⟨rfl, hb2⟩
                  have HT23 := Lib.hid (HT22.out.below hzW hb2)
                  have HX23 := Lib.hid ((hb2.block xb (Array.getElem?_eq_some_iff.1 HX22.out).1).trans HX22.out)
                  have c23 := HT23.out.box.cell
                  have s23 := HT23.out.size
                  clear hb2
                  go_wp2_with fail
                  refine hK.out _ _ (sx_of HX23.out HT23.out.b0) (fun hHeld => ?_)
                  clear hK K
                  (try simp only [Act.put, List.setIfInBounds_toArray, List.set_cons_zero, List.set_cons_succ])
                  refine wpAnyH_ready (rs := [10]) (by kernel_rfl) (by simp) ?_
                  refine AllReadyH.cons (by simp only [List.getElem?_toArray, List.getElem?_cons_succ, List.getElem?_cons_zero]; rfl) (fun K hK => ?_) AllReadyH.nil
                  go_simp
                  go_at_call 31
                  refine (HR2.out _).mono ?_
                  rintro e9 w24 ⟨rfl, hb2⟩
                  have HT24 := Lib.hid (HT23.out.below hzW hb2)
                  have HX24 := Lib.hid ((hb2.block xb (Array.getElem?_eq_some_iff.1 HX23.out).1).trans HX23.out)
                  have c24 := HT24.out.box.cell
                  have s24 := HT24.out.size
                  clear hb2
                  go_wp2_with fail
                  refine hK.out _ _ (sx_of HX24.out HT24.out.b0) (fun hHeld => ?_)
                  clear hK K
                  (try simp only [Act.put, List.setIfInBounds_toArray, List.set_cons_zero, List.set_cons_succ])
                  refine wpAnyH_take (i := 11) (v := ?_) (by simp only [List.getElem?_toArray, List.getElem?_cons_succ, List.getElem?_cons_zero]; rfl) (by kernel_rfl) (by kernel_rfl) (by kernel_rfl) (fun _ _ _ h => h) (Or.inl ⟨by rfl, ?_⟩) (by assumption) ?_
                  rotate_left
                  · intro w hSw
                    (try dsimp only at hSw)
                    (try go_split_ands)
                    go_simp
                    all_goals with_reducible rfl
                  (try simp only [Act.put, List.setIfInBounds_toArray, List.set_cons_zero, List.set_cons_succ])
                  refine wpAnyH_ready (rs := [12]) (by kernel_rfl) (by simp) ?_
                  refine AllReadyH.cons (by simp only [List.getElem?_toArray, List.getElem?_cons_succ, List.getElem?_cons_zero]; rfl) (fun K hK => ?_) AllReadyH.nil
                  go_simp
                  have HT3 := Lib.hid (HT24.out.below hzW ((Below.refl _ _).alloc (Nat.le_refl _) (.cells #[.string ⟨yk.toArray⟩] 9)))
                  have HX3 := Lib.hid ((Below.heap_alloc w24 (.cells #[.string ⟨yk.toArray⟩] 9) xb (Array.getElem?_eq_some_iff.1 HX24.out).1).trans HX24.out)
                  have c3 := HT3.out.box.cell
                  refine hK.out _ _ (sx_of HX3.out HT3.out.b0) (fun hHeld => ?_)
                  clear hK K
                  (try simp only [Act.put, List.setIfInBounds_toArray, List.set_cons_zero, List.set_cons_succ])
                  refine wpAnyH_ready (rs := [13]) (by kernel_rfl) (by simp) ?_
                  refine AllReadyH.cons (by simp only [List.getElem?_toArray, List.getElem?_cons_succ, List.getElem?_cons_zero]; rfl) (fun K hK => ?_) AllReadyH.nil
                  rw [if_pos (by rfl)]
                  refine push_wp (.tmp 42) (.tmp 54) rfl z v3 ssk yk HT24.out.own rfl rfl (by omega) (by omega) ?_
                  intro p6 c6 w6 own6 grow6
                  obtain ⟨bx6, HT6⟩ := HT24.out.pushed hzW hg n01 n1 n2 own6 grow6
                  obtain ⟨HX6, HX7⟩ := HT24.out.pushed_block (v' := .slice p6 (ssk.length + 1) c6) grow6 HX24.out HXN.out hxg
                  have HB6 := ((HT24.out.b0.alloc (.cells #[.string ⟨yk.toArray⟩] 9)).kept grow6 (HT24.out.b0.not_row (by decide) HT24.out.own))
                  have cc6 := bx6.cell
                  have ff6 := bx6.frozen
                  refine hK.out _ _ (sx_of HX6 HB6) (fun hHeld => ?_)
                  clear hK K
                  (try simp only [Act.put, List.setIfInBounds_toArray, List.set_cons_zero, List.set_cons_succ])
                  refine wpAnyH_ready (rs := [14]) (by kernel_rfl) (by simp) ?_
                  refine AllReadyH.cons (by simp only [List.getElem?_toArray, List.getElem?_cons_succ, List.getElem?_cons_zero]; rfl) (fun K hK => ?_) AllReadyH.nil
                  go_simp
                  refine hK.out _ _ (sx_of HX7 HT6.b0) (fun hHeld => ?_)
                  clear hK K
                  (try simp only [Act.put, List.setIfInBounds_toArray, List.set_cons_zero, List.set_cons_succ])
                  refine wpAnyH_done (by kernel_rfl) ?_ _
                  simp only [NrmQ]
                  gi_wp2
                  go_roundw
                  case rel => exact ⟨k + 1, _, by omega, by go_num, by rw [HTK.out]; exact HT6⟩
                  case measure => simp [intOf]; omega
                · go_simp
                  go_at_call 21
                  refine (HQ2.out _).mono ?_
                  rintro e9 w23 ⟨rfl, hb2⟩
                  have HT23 := Lib.hid (HT22.out.below hzW hb2)
                  have HX23 := Lib.hid ((hb2.block xb (Array.getElem?_eq_some_iff.1 HX22.out).1).trans HX22.out)
                  have c23 := HT23.out.box.cell
                  have s23 := HT23.out.size
                  clear hb2
                  go_wp2_with fail
                  refine hK.out _ _ (sx_of HX23.out HT23.out.b0) (fun hHeld => ?_)
                  clear hK K
                  (try simp only [Act.put, List.setIfInBounds_toArray, List.set_cons_zero, List.set_cons_succ])
                  refine wpAnyH_ready (rs := [0, 10]) (by kernel_rfl) (by simp) ?_
                  refine AllReadyH.cons (by simp only [List.getElem?_toArray, List.getElem?_cons_succ, List.getElem?_cons_zero]; rfl) (fun K hK => ?_) (AllReadyH.cons (by simp only [List.getElem?_toArray, List.getElem?_cons_succ, List.getElem?_cons_zero]; rfl) (fun K hK => ?_) AllReadyH.nil)
                  · go_simp
                    refine hK.out _ _ (sx_of HX23.out HT23.out.b0) (fun hHeld => ?_)
                    clear hK K
                    (try simp only [Act.put, List.setIfInBounds_toArray, List.set_cons_zero, List.set_cons_succ])
                    refine wpAnyH_ready (rs := [10]) (by kernel_rfl) (by simp) ?_
                    refine AllReadyH.cons (by simp only [List.getElem?_toArray, List.getElem?_cons_succ, List.getElem?_cons_zero]; rfl) (fun K hK => ?_) AllReadyH.nil
                    go_simp
                    go_at_call 31
                    refine (HR2.out _).mono ?_
                    rintro e9 w24 ⟨rfl, hb2⟩
                    have HT24 := Lib.hid (HT23.out.below hzW hb2)
                    have HX24 := Lib.hid ((hb2.block xb (Array.getElem?_eq_some_iff.1 HX23.out).1).trans HX23.out)
                    have c24 := HT24.out.box.cell
                    have s24 := HT24.out.size
                    clear hb2
                    go_wp2_with fail
                    refine hK.out _ _ (sx_of HX24.out HT24.out.b0) (fun hHeld => ?_)
                    clear hK K
                    (try simp only [Act.put, List.setIfInBounds_toArray, List.set_cons_zero, List.set_cons_succ])
                    refine wpAnyH_take (i := 11) (v := ?_) (by simp only [List.getElem?_toArray, List.getElem?_cons_succ, List.getElem?_cons_zero]; rfl) (by kernel_rfl) (by kernel_rfl) (by kernel_rfl) (fun _ _ _ h => h) (Or.inl ⟨by rfl, ?_⟩) (by assumption) ?_
                    rotate_left
                    · intro w hSw
                      (try dsimp only at hSw)
                      (try go_split_ands)
                      go_simp
                      all_goals with_reducible rfl
                    (try simp only [Act.put, List.setIfInBounds_toArray, List.set_cons_zero, List.set_cons_succ])
                    refine wpAnyH_ready (rs := [12]) (by kernel_rfl) (by simp) ?_
                    refine AllReadyH.cons (by simp only [List.getElem?_toArray, List.getElem?_cons_succ, List.getElem?_cons_zero]; rfl) (fun K hK => ?_) AllReadyH.nil
                    go_simp
                    have HT3 := Lib.hid (HT24.out.below hzW ((Below.refl _ _).alloc (Nat.le_refl _) (.cells #[.string ⟨yk.toArray⟩] 9)))
                    have HX3 := Lib.hid ((Below.heap_alloc w24 (.cells #[.string ⟨yk.toArray⟩] 9) xb (Array.getElem?_eq_some_iff.1 HX24.out).1).trans HX24.out)
                    have c3 := HT3.out.box.cell
                    refine hK.out _ _ (sx_of HX3.out HT3.out.b0) (fun hHeld => ?_)
                    clear hK K
                    (try simp only [Act.put, List.setIfInBounds_toArray, List.set_cons_zero, List.set_cons_succ])
                    refine wpAnyH_ready (rs := [13]) (by kernel_rfl) (by simp) ?_
                    refine AllReadyH.cons (by simp only [List.getElem?_toArray, List.getElem?_cons_succ, List.getElem?_cons_zero]; rfl) (fun K hK => ?_) AllReadyH.nil
                    rw [if_pos (by rfl)]
                    refine push_wp (.tmp 42) (.tmp 54) rfl z v3 ssk yk HT24.out.own rfl rfl (by omega) (by omega) ?_
                    intro p6 c6 w6 own6 grow6
                    obtain ⟨bx6, HT6⟩ := HT24.out.pushed hzW hg n01 n1 n2 own6 grow6
                    obtain ⟨HX6, HX7⟩ := HT24.out.pushed_block (v' := .slice p6 (ssk.length + 1) c6) grow6 HX24.out HXN.out hxg
                    have HB6 := ((HT24.out.b0.alloc (.cells #[.string ⟨yk.toArray⟩] 9)).kept grow6 (HT24.out.b0.not_row (by decide) HT24.out.own))
                    have cc6 := bx6.cell
                    have ff6 := bx6.frozen
                    refine hK.out _ _ (sx_of HX6 HB6) (fun hHeld => ?_)
                    clear hK K
                    (try simp only [Act.put, List.setIfInBounds_toArray, List.set_cons_zero, List.set_cons_succ])
                    refine wpAnyH_ready (rs := [14]) (by kernel_rfl) (by simp) ?_
                    refine AllReadyH.cons (by simp only [List.getElem?_toArray, List.getElem?_cons_succ, List.getElem?_cons_zero]; rfl) (fun K hK => ?_) AllReadyH.nil
                    go_simp
                    refine hK.out _ _ (sx_of HX7 HT6.b0) (fun hHeld => ?_)
                    clear hK K
                    (try simp only [Act.put, List.setIfInBounds_toArray, List.set_cons_zero, List.set_cons_succ])
                    refine wpAnyH_done (by kernel_rfl) ?_ _
                    simp only [NrmQ]
                    gi_wp2
                    go_roundw
                    case rel => exact ⟨k + 1, _, by omega, by go_num, by rw [HTK.out]; exact HT6⟩
                    case measure => simp [intOf]; omega
                  · go_simp
                    go_at_call 31
                    refine (HR2.out _).mono ?_
                    rintro e9 w24 ⟨rfl, hb2⟩
                    have HT24 := Lib.hid (HT23.out.below hzW hb2)
                    have HX24 := Lib.hid ((hb2.block xb (Array.getElem?_eq_some_iff.1 HX23.out).1).trans HX23.out)
                    have c24 := HT24.out.box.cell
                    have s24 := HT24.out.size
                    clear hb2
                    go_wp2_with fail
                    refine hK.out _ _ (sx_of HX24.out HT24.out.b0) (fun hHeld => ?_)
                    clear hK K
                    (try simp only [Act.put, List.setIfInBounds_toArray, List.set_cons_zero, List.set_cons_succ])
                    refine wpAnyH_take (i := 11) (v := ?_) (by simp only [List.getElem?_toArray, List.getElem?_cons_succ, List.getElem?_cons_zero]; rfl) (by kernel_rfl) (by kernel_rfl) (by kernel_rfl) (fun _ _ _ h => h) (Or.inl ⟨by rfl, ?_⟩) (by assumption) ?_
                    rotate_left
                    · intro w hSw
                      (try dsimp only at hSw)
                      (try go_split_ands)
                      go_simp
                      all_goals with_reducible rfl
                    (try simp only [Act.put, List.setIfInBounds_toArray, List.set_cons_zero, List.set_cons_succ])
                    refine wpAnyH_ready (rs := [0, 12]) (by kernel_rfl) (by simp) ?_
                    refine AllReadyH.cons (by simp only [List.getElem?_toArray, List.getElem?_cons_succ, List.getElem?_cons_zero]; rfl) (fun K hK => ?_) (AllReadyH.cons (by simp only [List.getElem?_toArray, List.getElem?_cons_succ, List.getElem?_cons_zero]; rfl) (fun K hK => ?_) AllReadyH.nil)
                    · go_simp
                      refine hK.out _ _ (sx_of HX24.out HT24.out.b0) (fun hHeld => ?_)
                      clear hK K
                      (try simp only [Act.put, List.setIfInBounds_toArray, List.set_cons_zero, List.set_cons_succ])
                      refine wpAnyH_ready (rs := [12]) (by kernel_rfl) (by simp) ?_
                      refine AllReadyH.cons (by simp only [List.getElem?_toArray, List.getElem?_cons_succ, List.getElem?_cons_zero]; rfl) (fun K hK => ?_) AllReadyH.nil
                      go_simp
                      have HT3 := Lib.hid (HT24.out.below hzW ((Below.refl _ _).alloc (Nat.le_refl _) (.cells #[.string ⟨yk.toArray⟩] 9)))
                      have HX3 := Lib.hid ((Below.heap_alloc w24 (.cells #[.string ⟨yk.toArray⟩] 9) xb (Array.getElem?_eq_some_iff.1 HX24.out).1).trans HX24.out)
                      have c3 := HT3.out.box.cell
                      refine hK.out _ _ (sx_of HX3.out HT3.out.b0) (fun hHeld => ?_)
                      clear hK K
                      (try simp only [Act.put, List.setIfInBounds_toArray, List.set_cons_zero, List.set_cons_succ])
                      refine wpAnyH_ready (rs := [13]) (by kernel_rfl) (by simp) ?_
                      refine AllReadyH.cons (by simp only [List.getElem?_toArray, List.getElem?_cons_succ, List.getElem?_cons_zero]; rfl) (fun K hK => ?_) AllReadyH.nil
                      rw [if_pos (by rfl)]
                      refine push_wp (.tmp 42) (.tmp 54) rfl z v3 ssk yk HT24.out.own rfl rfl (by omega) (by omega) ?_
                      intro p6 c6 w6 own6 grow6
                      obtain ⟨bx6, HT6⟩ := HT24.out.pushed hzW hg n01 n1 n2 own6 grow6
                      obtain ⟨HX6, HX7⟩ := HT24.out.pushed_block (v' := .slice p6 (ssk.length + 1) c6) grow6 HX24.out HXN.out hxg
                      have HB6 := ((HT24.out.b0.alloc (.cells #[.string ⟨yk.toArray⟩] 9)).kept grow6 (HT24.out.b0.not_row (by decide) HT24.out.own))
                      have cc6 := bx6.cell
                      have ff6 := bx6.frozen
                      refine hK.out _ _ (sx_of HX6 HB6) (fun hHeld => ?_)
                      clear hK K
                      (try simp only [Act.put, List.setIfInBounds_toArray, List.set_cons_zero, List.set_cons_succ])
                      refine wpAnyH_ready (rs := [14]) (by kernel_rfl) (by simp) ?_
                      refine AllReadyH.cons (by simp only [List.getElem?_toArray, List.getElem?_cons_succ, List.getElem?_cons_zero]; rfl) (fun K hK => ?_) AllReadyH.nil
                      go_simp
                      refine hK.out _ _ (sx_of HX7 HT6.b0) (fun hHeld => ?_)
                      clear hK K
                      (try simp only [Act.put, List.setIfInBounds_toArray, List.set_cons_zero, List.set_cons_succ])
                      refine wpAnyH_done (by kernel_rfl) ?_ _
                      simp only [NrmQ]
                      gi_wp2
                      go_roundw
                      case rel => exact ⟨k + 1, _, by omega, by go_num, by rw [HTK.out]; exact HT6⟩
                      case measure => simp [intOf]; omega
                    · go_simp
                      have HT3 := Lib.hid (HT24.out.below hzW ((Below.refl _ _).alloc (Nat.le_refl _) (.cells #[.string ⟨yk.toArray⟩] 9)))
                      have HX3 := Lib.hid ((Below.heap_alloc w24 (.cells #[.string ⟨yk.toArray⟩] 9) xb (Array.getElem?_eq_some_iff.1 HX24.out).1).trans HX24.out)
                      have c3 := HT3.out.box.cell
                      refine hK.out _ _ (sx_of HX3.out HT3.out.b0) (fun hHeld => ?_)
                      clear hK K
                      (try simp only [Act.put, List.setIfInBounds_toArray, List.set_cons_zero, List.set_cons_succ])
                      refine wpAnyH_ready (rs := [0]) (by kernel_rfl) (by simp) ?_
                      refine AllReadyH.cons (by simp only [List.getElem?_toArray, List.getElem?_cons_succ, List.getElem?_cons_zero]; rfl) (fun K hK => ?_) AllReadyH.nil
                      go_simp
                      refine hK.out _ _ (sx_of HX3.out HT3.out.b0) (fun hHeld => ?_)
                      clear hK K
                      (try simp only [Act.put, List.setIfInBounds_toArray, List.set_cons_zero, List.set_cons_succ])
                      refine wpAnyH_ready (rs := [13]) (by kernel_rfl) (by simp) ?_
                      refine AllReadyH.cons (by simp only [List.getElem?_toArray, List.getElem?_cons_succ, List.getElem?_cons_zero]; rfl) (fun K hK => ?_) AllReadyH.nil
                      rw [if_pos (by rfl)]
                      refine push_wp (.tmp 42) (.tmp 54) rfl z v3 ssk yk HT24.out.own rfl rfl (by omega) (by omega) ?_
                      intro p6 c6 w6 own6 grow6
                      obtain ⟨bx6, HT6⟩ := HT24.out.pushed hzW hg n01 n1 n2 own6 grow6
                      obtain ⟨HX6, HX7⟩ := HT24.out.pushed_block (v' := .slice p6 (ssk.length + 1) c6) grow6 HX24.out HXN.out hxg
                      have HB6 := ((HT24.out.b0.alloc (.cells #[.string ⟨yk.toArray⟩] 9)).kept grow6 (HT24.out.b0.not_row (by decide) HT24.out.own))
                      have cc6 := bx6.cell
                      have ff6 := bx6.frozen
                      refine hK.out _ _ (sx_of HX6 HB6) (fun hHeld => ?_)
                      clear hK K
                      (try simp only [Act.put, List.setIfInBounds_toArray, List.set_cons_zero, List.set_cons_succ])
                      refine wpAnyH_ready (rs := [14]) (by kernel_rfl) (by simp) ?_
                      refine AllReadyH.cons (by simp only [List.getElem?_toArray, List.getElem?_cons_succ, List.getElem?_cons_zero]; rfl) (fun K hK => ?_) AllReadyH.nil
                      go_simp
                      refine hK.out _ _ (sx_of HX7 HT6.b0) (fun hHeld => ?_)
                      clear hK K
                      (try simp only [Act.put, List.setIfInBounds_toArray, List.set_cons_zero, List.set_cons_succ])
                      refine wpAnyH_done (by kernel_rfl) ?_ _
                      simp only [NrmQ]
                      gi_wp2
                      go_roundw
                      case rel => exact ⟨k + 1, _, by omega, by go_num, by rw [HTK.out]; exact HT6⟩
                      case measure => simp [intOf]; omega
          · have hke : k = e := by omega
            subst hke
            have hfull : ss1 ++ ((chunkOf m x).take k).map (rowP wide) ++ [p4L] = outP wide m (pre ++ [x]) := by
              have hcl : (chunkOf m x).length = k := by rw [← HE.out]; unfold chunkOf; simp; omega
              rw [outP_snoc, HSS.out, ← HS1.out, ← HY.out, ← HDE.out, ← hcl, List.take_length]
              simp [chunkP]
            have HF := Lib.hid hfull
            have hk100 : k ≤ 100 := by have := HE.out; omega
            have hll : (ss1 ++ ((chunkOf m x).take k).map (rowP wide)).length ≤ 600000 := by simp; omega
            obtain ⟨ssE, hssE⟩ : ∃ s, ss1 ++ ((chunkOf m x).take k).map (rowP wide) = s := ⟨_, rfl⟩
            rw [hssE] at HTr hll HF
            have HA := Lib.hid HTr
            have cA := HTr.box.cell
            have hzr : z ≤ wr.heap.size := by have := HTr.size; omega
            clear hfull HTr hssE hk hlk
            gi_wp2_with (gi_at_builtin; refine push_list rfl (.tmp 57) (.tmp 58) rfl z v3 ssE p4L HA.out.own rfl rfl (by omega) hzr ?_; intro p6 c6 w6 own6 grow6; obtain ⟨bx6, HT6⟩ := HA.out.pushed hzW hg n01 n1 n2 own6 grow6; have cc6 := bx6.cell; have ff6 := bx6.frozen)
            refine ⟨HT6.tk.others.from _, HT6.tk.keep, ⟨⟨_, HT6.box, ?_, trivial⟩, HT6.b0, HT6.b1, HT6.b2⟩, HBZ.out.trans HT6.tk.keep.below⟩
            rw [← HF.out]
            exact HT6.own
    case done =>
      rintro D ys W hD rfl ⟨⟨⟨v, hv, hrow, _⟩, b0, b1, b2⟩, hB⟩ hK
      have hlen : (outP wide m (starts N)).length ≤ 500000 := by
        have h1 := outP_len wide m (starts N)
        have h2 := startsF_len (N + 1) 0 N
        unfold starts at h1 ⊢
        omega
      have hjoin := all_body m wide
      rw [allP, hN] at hjoin
      obtain ⟨ssE, hssE⟩ : ∃ s, outP wide m (starts N) = s := ⟨_, rfl⟩
      rw [hssE] at hrow hlen hjoin
      have HR := Lib.hid (show cownS W z v ssE from hrow)
      have HV := Lib.hid hv
      have cv := hv.cell
      have hzW : z ≤ W.heap.size := by have := hB.size; omega
      have HB := Lib.hid hB
      have HJ := Lib.hid hjoin
      have HK := Lib.hid hK
      clear hssE hrow hv hB b0 b1 b2 hjoin hK
      have HLB := Lib.hid (body_len m wide (by omega) (fun x hx => (HSM.out x hx).2.2))
      obtain ⟨r, hr⟩ : ∃ r, bodyC m wide = r := ⟨_, rfl⟩
      rw [hr] at HJ HLB
      have hrl := HLB.out
      have HRR := Lib.hid hr
      clear hr
      gi_wp2_with (gi_at_builtin; refine push2_list rfl (.tmp 60) (.tmp 61) rfl z v ssE p5L [] HR.out rfl rfl (by omega) hzW ?_; intro g6 c6 w6 own6 grow6)
      have HK6 := Lib.hid (own_keepD HR.out HK.out grow6)
      have HB6 := Lib.hid (HB.out.trans (own_belowB HR.out hzW grow6))
      have HJN := Lib.hid (join_rows own6 (by simp) HJ.out (by omega) (by omega))
      clear own6 grow6
      gi_wp2_with (refine ⟨trivial, ?_⟩; gi_at_call 35; refine (callsIn_wide.2 HJN.out).mono ?_; rintro e9 w7 ⟨rfl, hb7⟩)
      have hK' : w7.heap[D]? = some (.deferred (some [])) := (hb7.block D (Array.getElem?_eq_some_iff.1 HK6.out).1).trans HK6.out
      have h67 := HB6.out.size
      have HB7 := Lib.hid (HB6.out.trans (hb7.mono (by omega)))
      refine ⟨by simp, .inl ⟨_, _, rfl, run_takeDeferred hK', ?_⟩⟩
      refine ⟨.tuple #[.string ⟨r.toArray⟩, .int .i64 0], ?_, ?_, ?_⟩
      · simp [results, Tryz.f15, go_sem]
      · rw [HRR.out]
      · exact HBW.out.trans ((HB7.out.trans (belowK_b (n₀ := z) (w := WR) (by omega) w7 D _ _ hD hK' rfl rfl)).mono (by omega))
theorem wtext_in (v : Value) (m : CM) (wide : Bool) (w : World) (hv : MArg w v m) (hcap : MCap v) (hm : m.length ≤ 1000000) (hx : ∀ p ∈ m, p.2.length ≤ 1000000) (hT : TabsW w) :
    Calls Tryz.prog 15 #[v, .bool wide] w fun e w' => WrR (writeC m wide) e ∧ Below w.heap.size w w' := by
  unfold writeC
  by_cases h : checkC m wide = 0
  · rw [if_pos h]; exact wtext_good v m wide w h hv hcap hm hx hT
  · rw [if_neg h]; exact wtext_bad v m wide w _ rfl h hv hm hx hT
end Go.Proofs.YtibffdaljmmdoaaGreatDoor
