/- The law WholeAlone, its own function walked. -/
import Derived.Test.YtfgdhcemidlnfaaGreatDoorWlB
import Derived.Test.YtfgdhcemidlnfaaGreatDoorWlC
import Derived.Test.YtfgdhcemidlnfaaGreatDoorSzA
set_option linter.all false
namespace Go.Proofs.YtfgdhcemidlnfaaGreatDoor
open Go.RowKit Fo

theorem ItemsAt.up {S : Nat → Prop} {d : Nat} {w : World} {v : Value} {l : List It} (h : ItemsAt S d w v l) : ItemsAt S (d + 1) w v l := by
  rcases h with h | ⟨b, off, c, h1, h2, h3⟩
  · exact .inl h
  · refine .inr ⟨b, off, c, h1, h2, fun j hj => ?_⟩
    obtain ⟨v0, v1, v2, v3, v4, v5, a0, a1, a2, a3, a4, a5, a6, a7, a8⟩ := h3 j hj
    exact ⟨v0, v1, v2, v3, v4, v5, a0, a1, a2, a3, a4, a5, a6, a7, a8.up⟩
/-- A small document's items are all written. -/
theorem fit_small {S : Nat → Prop} {d : Nat} {w : World} {v : Value} {D : Dc} (hI : ItemsAt S (d + 1) w v D.items) (hl : D.items.length ≤ 1000000) (hb : bulkD 24 D ≤ 1048576) (hs : sizeD (d + 1) D ≤ 600) : DocFit D := by
  refine ⟨hl, hb, fun i hi => ?_⟩
  obtain ⟨k, hk, rfl⟩ := List.mem_iff_getElem.1 hi
  rcases hI with ⟨h, _⟩ | ⟨b, off, c, _, _, h3⟩
  · rw [h] at hk; exact absurd hk (Nat.not_lt_zero _)
  · obtain ⟨v0, v1, v2, v3, v4, v5, _, _, _, _, _, _, _, _, a8⟩ := h3 k hk
    have h1 := kids_size a8
    have h2 := mem_sum_le (fun i : It => sizeO (d + 1) i.ob) (List.getElem_mem hk)
    unfold sizeD at hs
    omega
theorem item_zero : (Tryz.prog.info? 50).map (fun i => (i.zero, i.size, i.bytes)) = some (some (.agg #[.int .i64 0, .int .i64 0, .int .i64 0, .int .i64 0, .int .i64 0, .string ⟨#[]⟩, .slice none 0 0, .slice none 0 0]), 8, 104) := by kernel_rfl
set_option maxRecDepth 100000 in
set_option maxHeartbeats 4000000 in
theorem alone_in (S : Nat → Prop) (d : Nat) (D : Dc) (iv : Value) (tc : List Value) (m : Nat) (hm : m ≤ 255) (w : World) (hI : ItemsAt S (d + 1) w iv D.items) (hO : ObjAt S (d + 1) w tc D.trail) (hS : ∀ b, S b → b < w.heap.size) (hbk : ∀ e, bulkD e D ≤ 1048576)
    (hl : D.items.length ≤ 1000000) (hsI : ∀ i ∈ D.items, smallO (d + 1) i.ob) (hsT : smallO (d + 1) D.trail) (hT : TabP w) :
    Calls Tryz.prog 5 #[.agg (iv :: tc).toArray, .int .u8 m] w fun e w' => e = .returned (.bool true) ∧ Below w.heap.size w w' := by
  have HTW := Lib.hid hT
  obtain ⟨p1, n1, c1, p2, n2, c2, rfl⟩ := hO.shape
  obtain ⟨ip, ic, rfl⟩ := hI.slice
  obtain ⟨n, hn⟩ : ∃ n, D.items.length = n := ⟨_, rfl⟩
  rw [hn] at hI hl ⊢
  have keptI := fun (W : World) (hW : Below w.heap.size w W) => hI.kept (fun b h => hW.block b (hS b h))
  have keptO := fun (W : World) (hW : Below w.heap.size w W) => hO.kept (fun b h => hW.block b (hS b h)) (d + 1)
  have hS2 := fun (W : World) (hW : Below w.heap.size w W) b (h : S b) => Nat.lt_of_lt_of_le (hS b h) hW.size
  have HSZ := Lib.hid (fun (W : World) (hW : Below w.heap.size w W) => sizeD_in S (d + 1) W D ip p1 p2 n ic n1 c1 n2 c2 (keptI W hW) hn hl hsI (keptO W hW) hsT (hS2 W hW) (hbk _))
  have HLV := Lib.hid (fun (W : World) (hW : Below w.heap.size w W) => lives_in W (hT.below hW))
  have hsz : sizeD (d + 1) D ≤ 1048576 := by
    have h1 := size_bulk (d + 1) D.trail
    have h2 := map_sum_le (l := D.items) (f := fun i => sizeO (d + 1) i.ob) (g := fun i => bulkO (d + 1) i.ob) (fun i _ => size_bulk (d + 1) i.ob)
    have := hbk (d + 1)
    unfold bulkD at this
    unfold sizeD
    omega
  have HFI := Lib.hid (fun (hs : sizeD (d + 1) D ≤ 600) (W : World) (hW : Below w.heap.size w W) => file_in S d W _ D ⟨_, _, rfl, keptI W hW, by omega, hsI, keptO W hW, hsT⟩ (hS2 W hW) (fit_small hI (by omega) (hbk 24) hs) (hT.below hW))
  have HFJ := Lib.hid (fun (hs : sizeD (d + 1) D ≤ 600) (W : World) (hW : Below w.heap.size w W) (mp : Option Addr) (mc : Nat) (hIm : ItemsAt (fun b => b < W.heap.size) (d + 1) W (.slice mp n mc) D.items) => file_in (fun b => b < W.heap.size) d W _ D ⟨_, _, rfl, hIm, by omega, hsI, (keptO W hW).weaken (fun b h _ => hS2 W hW b h) _, hsT⟩ (fun b h => h) (fit_small hI (by omega) (hbk 24) hs) (hT.below hW))
  have HCP := Lib.hid (fun (W : World) (hW : Below w.heap.size w W) ty Z => copy_items S (d + 1) W ip n ic m ty D.items Z (keptI W hW) hn (hS2 W hW))
  unfold objCells at HFI HFJ ⊢
  obtain ⟨z, hz⟩ : ∃ z, sizeD (d + 1) D = z := ⟨_, rfl⟩
  rw [hz] at HSZ HFI HFJ hsz
  clear hT hI hO hS hbk hn hsI hsT keptI keptO hS2 hz
  by_cases h40 : 40 < n
  · have g40 : decide ((n : Int) > 40) = true := by simp; omega
    go_enter Tryz.func5, Tryz.ntmps5
    go_wp2_with fail
    refine (HLV.out _ (by repeat' (first | (with_reducible first | exact Below.refl _ _ | refine Below.drew ?_ | refine belowDrewN ?_ _ | refine belowIter ?_ ?_ _ _ | refine Below.setCell ?_ ?_ _ | refine Below.alloc ?_ ?_ _ | refine bT hb4 ?_ ?_ | refine bT hb3 ?_ ?_ | refine bT hb2 ?_ ?_ | refine bT hb1 ?_ ?_ | refine bT hbr ?_ ?_ | refine bT hb ?_ ?_) | (simp; done) | (simp; omega) | omega))).mono ?_
    rintro e w1 ⟨rfl, hb1⟩
    go_wp2
    go_ret
    exact ⟨rfl, (by repeat' (first | (with_reducible first | exact Below.refl _ _ | refine Below.drew ?_ | refine belowDrewN ?_ _ | refine belowIter ?_ ?_ _ _ | refine Below.setCell ?_ ?_ _ | refine Below.alloc ?_ ?_ _ | refine bT hb4 ?_ ?_ | refine bT hb3 ?_ ?_ | refine bT hb2 ?_ ?_ | refine bT hb1 ?_ ?_ | refine bT hbr ?_ ?_ | refine bT hb ?_ ?_) | (simp; done) | (simp; omega) | omega))⟩
  · have g40 : decide ((n : Int) > 40) = false := by simp; omega
    by_cases h600 : 600 < z
    · have g600 : decide ((z : Int) > 600) = true := by simp; omega
      go_enter Tryz.func5, Tryz.ntmps5
      go_wp2_with fail
      refine (HSZ.out _ (by repeat' (first | (with_reducible first | exact Below.refl _ _ | refine Below.drew ?_ | refine belowDrewN ?_ _ | refine belowIter ?_ ?_ _ _ | refine Below.setCell ?_ ?_ _ | refine Below.alloc ?_ ?_ _ | refine bT hb4 ?_ ?_ | refine bT hb3 ?_ ?_ | refine bT hb2 ?_ ?_ | refine bT hb1 ?_ ?_ | refine bT hbr ?_ ?_ | refine bT hb ?_ ?_) | (simp; done) | (simp; omega) | omega))).mono ?_
      rintro e w1 ⟨rfl, hb1⟩
      have hbw1 : Below w.heap.size w w1 := (by repeat' (first | (with_reducible first | exact Below.refl _ _ | refine Below.drew ?_ | refine belowDrewN ?_ _ | refine belowIter ?_ ?_ _ _ | refine Below.setCell ?_ ?_ _ | refine Below.alloc ?_ ?_ _ | refine bT hb4 ?_ ?_ | refine bT hb3 ?_ ?_ | refine bT hb2 ?_ ?_ | refine bT hb1 ?_ ?_ | refine bT hbr ?_ ?_ | refine bT hb ?_ ?_) | (simp; done) | (simp; omega) | omega))
      go_wp2_with fail
      refine (HLV.out _ hbw1).mono ?_
      rintro e w2 ⟨rfl, hb2⟩
      go_wp2
      go_ret
      exact ⟨rfl, hbw1.trans (hb2.mono hbw1.size)⟩
    · have g600 : decide ((z : Int) > 600) = false := by simp; omega
      have HFI2 := Lib.hid (HFI.out (by omega))
      have HFJ2 := Lib.hid (HFJ.out (by omega))
      clear HFI HFJ
      go_enter Tryz.func5, Tryz.ntmps5
      go_wp2_with fail
      refine (HSZ.out _ (by repeat' (first | (with_reducible first | exact Below.refl _ _ | refine Below.drew ?_ | refine belowDrewN ?_ _ | refine belowIter ?_ ?_ _ _ | refine Below.setCell ?_ ?_ _ | refine Below.alloc ?_ ?_ _ | refine bT hb4 ?_ ?_ | refine bT hb3 ?_ ?_ | refine bT hb2 ?_ ?_ | refine bT hb1 ?_ ?_ | refine bT hbr ?_ ?_ | refine bT hb ?_ ?_) | (simp; done) | (simp; omega) | omega))).mono ?_
      rintro e w1 ⟨rfl, hb1⟩
      have hbw1 : Below w.heap.size w w1 := (by repeat' (first | (with_reducible first | exact Below.refl _ _ | refine Below.drew ?_ | refine belowDrewN ?_ _ | refine belowIter ?_ ?_ _ _ | refine Below.setCell ?_ ?_ _ | refine Below.alloc ?_ ?_ _ | refine bT hb4 ?_ ?_ | refine bT hb3 ?_ ?_ | refine bT hb2 ?_ ?_ | refine bT hb1 ?_ ?_ | refine bT hbr ?_ ?_ | refine bT hb ?_ ?_) | (simp; done) | (simp; omega) | omega))
      have A1 := (hb1.block _ (by simp)).trans (heap_new_at w (.cells #[.slice ip n ic, .int .i64 D.trail.kind, .int .i64 D.trail.n, .int .i64 D.trail.g, .string ⟨D.trail.s.toArray⟩, .slice p1 n1 c1, .slice p2 n2 c2] 28) _ rfl)
      obtain ⟨a0, a1, a2, a3, a4, a5, a6⟩ := seven_of A1
      have hz1 := hb1.size
      simp at hz1
      obtain ⟨i0, hi0, y0, y1, y2⟩ := info_parts item_zero
      have hmk := run_make (P := Tryz.prog) w1 22 50 i0 _ Tryz.underlying22 hi0 y0 .i64 .i64 (n : Int) ((n : Int) + (m : Int)) (by omega) (by omega) (by rw [y2]; omega) (by omega)
      rw [y1, Int.toNat_natCast, show ((n : Int) + (m : Int)).toNat = n + m by omega] at hmk
      obtain ⟨w2, hcp, hI2, hb2⟩ := HCP.out w1 hbw1 3 (Value.cells (.agg #[.int .i64 0, .int .i64 0, .int .i64 0, .int .i64 0, .int .i64 0, .string ⟨#[]⟩, .slice none 0 0, .slice none 0 0]))
      obtain ⟨W1, hW1⟩ : ∃ W1, w1.alloc (.cells (madeCells (Value.cells (.agg #[.int .i64 0, .int .i64 0, .int .i64 0, .int .i64 0, .int .i64 0, .string ⟨#[]⟩, .slice none 0 0, .slice none 0 0])) ((n + m) * 8)) 50) = W1 := ⟨_, rfl⟩
      rw [hW1] at hmk hcp
      have B1 : W1.heap[w.heap.size]? = _ := ((by rw [← hW1]; exact Below.heap_alloc _ _ _ (by omega)) : W1.heap[w.heap.size]? = w1.heap[w.heap.size]?).trans A1
      clear hW1
      have A2 := (hb2.block _ (by omega)).trans A1
      have hbw2 := hbw1.trans (hb2.mono hbw1.size)
      have hz2 := hb2.size
      obtain ⟨b0, b1, b2, b3, b4, b5, b6⟩ := seven_of B1
      obtain ⟨e0, e1, e2, e3, e4, e5, e6⟩ := seven_of A2
      go_wp2_with (with_reducible refine wpList_copy_runI _ rfl _ _ 22 22 rfl _ _ rfl rfl hcp ?_)
      refine (HFI2.out _ hbw2).mono ?_
      rintro e w3 ⟨rfl, hb3⟩
      have A3 := (hb3.block _ (by omega)).trans A2
      have hbw3 := hbw2.trans (hb3.mono hbw2.size)
      have hI3 := (hI2.kept (fun b h => hb3.block b h)).weaken (S' := fun b => b < w3.heap.size) (fun b h => Nat.lt_of_lt_of_le h hb3.size)
      have HI3 := Lib.hid hI3
      clear a0 a1 a2 a3 a4 a5 a6 b0 b1 b2 b3 b4 b5 b6 e0 e1 e2 e3 e4 e5 e6 hI2 hI3 hcp hmk
      obtain ⟨a0, a1, a2, a3, a4, a5, a6⟩ := seven_of A3
      obtain ⟨FS, hFS⟩ : ∃ FS, fileS D = FS := ⟨_, rfl⟩
      obtain ⟨FE, hFE⟩ : ∃ FE, fileE D = FE := ⟨_, rfl⟩
      rw [hFS, hFE] at HFJ2 ⊢
      clear hFS hFE
      go_wp2_with fail
      refine (HFJ2.out _ hbw3 _ _ HI3.out).mono ?_
      rintro e w4 ⟨rfl, hb4⟩
      have hbw4 := hbw3.trans (hb4.mono hbw3.size)
      go_wp2_with fail
      refine (HLV.out _ hbw4).mono ?_
      rintro e w5 ⟨rfl, hb5⟩
      go_wp2
      go_ret
      exact ⟨rfl, hbw4.trans (hb5.mono hbw4.size)⟩
end Go.Proofs.YtfgdhcemidlnfaaGreatDoor
