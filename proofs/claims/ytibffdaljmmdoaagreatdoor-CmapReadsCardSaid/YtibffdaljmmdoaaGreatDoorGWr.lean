/- The walks of Check and of what Text calls. -/
import Derived.Test.YtibffdaljmmdoaaGreatDoorGUtf
import Derived.Test.YtibffdaljmmdoaaGreatDoorGCm
import Derived.Test.YtibffdaljmmdoaaGreatDoorShelfD
import Derived.BigQuiet
import Derived.Deep.RegionHeld3
import Derived.RangeFuncNested
import Derived.OrdersIn
import Derived.Deep.QuietTactic
import Derived.Sort.CutIn
import Derived.OwnWalkIn
set_option linter.all false
/- Writing of a mapping: digits, bytes, what is shown. -/
namespace Go.Proofs.YtibffdaljmmdoaaGreatDoor
open Go.RowKit Fo Go.Maps

theorem conv1 (w : World) (z : Int) (b : UInt8) (hz : z = (b.toNat : Int)) (c : Nat) :
    (Go.convert 41 9 (.slice (some ⟨w.heap.size, 0, none⟩) 1 c)).run Tryz.prog (w.alloc (.cells #[.int .u8 z] 5)) = .ok (.string ⟨[b].toArray⟩) (w.alloc (.cells #[.int .u8 z] 5)) := by
  refine run_convert_bytes_back _ _ _ 5 ⟨w.heap.size, 0, none⟩ c [b] Tryz.underlying41 Tryz.underlying5 Tryz.underlying9 (fun j hj => ?_)
  obtain rfl : j = 0 := by simpa using hj
  subst hz
  simp [Addr.add, go_sem]
theorem conv2 (w : World) (z z2 : Int) (b b2 : UInt8) (hz : z = (b.toNat : Int)) (hz2 : z2 = (b2.toNat : Int)) (c : Nat) :
    (Go.convert 41 9 (.slice (some ⟨w.heap.size, 0, none⟩) 2 c)).run Tryz.prog (w.alloc (.cells #[.int .u8 z, .int .u8 z2] 5)) = .ok (.string ⟨[b, b2].toArray⟩) (w.alloc (.cells #[.int .u8 z, .int .u8 z2] 5)) := by
  refine run_convert_bytes_back _ _ _ 5 ⟨w.heap.size, 0, none⟩ c [b, b2] Tryz.underlying41 Tryz.underlying5 Tryz.underlying9 (fun j hj => ?_)
  subst hz; subst hz2
  have : j = 0 ∨ j = 1 := by simp at hj; omega
  rcases this with rfl | rfl <;> simp [Addr.add, go_sem]
set_option maxRecDepth 100000 in
set_option maxHeartbeats 1000000 in
theorem digits_one (k : Nat) (hk : k < 10) (b : UInt8) (hb : UInt8.ofNat (48 + k) = b) (w : World) :
    Calls Tryz.prog 34 #[.int .i64 k] w fun e w' => e = .returned (.string ⟨[b].toArray⟩) ∧ Below w.heap.size w w' := by
  have d0 : decide ((k : Int) < 10) = true := by simp; omega
  have hb : (48 + (k : Int)) = (b.toNat : Int) := by rw [← hb]; simp; omega
  have hcv := conv1 w (48 + (k : Int)) b hb 1
  clear hb
  go_enter Tryz.func34, Tryz.ntmps34
  go_wp2
  go_ret
  exact ⟨rfl, (by repeat' (first | (with_reducible first | exact Below.refl _ _ | refine Below.drew ?_ | refine belowDrewN ?_ _ | refine belowIter ?_ ?_ _ _ | refine Below.setCell ?_ ?_ _ | refine Below.alloc ?_ ?_ _ | refine bT hb4 ?_ ?_ | refine bT hb3 ?_ ?_ | refine bT hb2 ?_ ?_ | refine bT hb1 ?_ ?_ | refine bT hbr ?_ ?_ | refine bT hb ?_ ?_) | (simp; done) | (simp; omega) | omega))⟩
theorem decL_len : ∀ (n k : Nat), (decL n k).length ≤ n
  | 0, _ => by simp [decL]
  | n + 1, k => by
    rw [decL]; split
    · simp
    · have := decL_len n (k / 10); simp; omega
set_option maxRecDepth 100000 in
set_option maxHeartbeats 1000000 in
theorem cdig_in : ∀ (n k : Nat), k < 10 ^ n → 1 ≤ n → n ≤ 10 → ∀ (w : World),
    Calls Tryz.prog 34 #[.int .i64 k] w fun e w' => e = .returned (.string ⟨(decL n k).toArray⟩) ∧ Below w.heap.size w w'
  | 0, k, hk, h1, _, w => by omega
  | n + 1, k, hk, _, hn, w => by
    rw [decL]
    by_cases h : k < 10
    · rw [if_pos h]; exact digits_one k h _ rfl w
    · rw [if_neg h]
      have hn1 : 1 ≤ n := by
        rcases n with _ | n
        · simp at hk; omega
        · omega
      have hk2 : k / 10 < 10 ^ n := by rw [Nat.div_lt_iff_lt_mul (by decide)]; rw [Nat.pow_succ] at hk; exact hk
      have H1 := Lib.hid (fun W => cdig_in n (k / 10) hk2 hn1 (by omega) W)
      obtain ⟨b, hb⟩ : ∃ b, UInt8.ofNat (48 + k % 10) = b := ⟨_, rfl⟩
      have H2 := Lib.hid (fun W => digits_one (k % 10) (by omega) b hb W)
      rw [hb]
      have hl := decL_len n (k / 10)
      have hkm : k < 10000000000 := Nat.lt_of_lt_of_le hk (Nat.le_trans (Nat.pow_le_pow_right (by decide) hn) (by decide : 10 ^ 10 ≤ 10000000000))
      obtain ⟨D, hD⟩ : ∃ D, decL n (k / 10) = D := ⟨_, rfl⟩
      rw [hD] at H1 hl ⊢
      obtain ⟨q, hq⟩ : ∃ q, k / 10 = q := ⟨_, rfl⟩
      obtain ⟨r, hr⟩ : ∃ r, k % 10 = r := ⟨_, rfl⟩
      have hqi : (k : Int).tdiv 10 = (q : Int) := by rw [← hq]; rfl
      have hri : (k : Int).tmod 10 = (r : Int) := by rw [← hr]; rfl
      have hrl : r < 10 := by omega
      have hwq : wrap64 ((q : Nat) : Int) = (q : Int) := by unfold wrap64; omega
      rw [hq] at H1
      rw [hr] at H2
      have d0 : decide ((k : Int) < 10) = false := by simp; omega
      have y1 : D.length + 1 ≤ 9223372036854775807 := by omega
      clear hD hk hk2 hn hq hr hb
      go_enter Tryz.func34, Tryz.ntmps34
      go_wp2_with fail
      refine (H1.out _).mono ?_
      rintro e w1 ⟨rfl, hb1⟩
      have hz1 := hb1.size
      go_wp2_with fail
      refine (H2.out _).mono ?_
      rintro e w2 ⟨rfl, hb2⟩
      have hz2 := hb2.size
      go_wp2
      go_ret
      exact ⟨by first | rfl | (congr 2; simp [ByteArray.mk_append_mk]), hb1.trans (hb2.mono hz1)⟩
set_option maxRecDepth 100000 in
set_option maxHeartbeats 1000000 in
theorem shown_in (s : ByteArray) (hs : s.size ≤ 1000000) (w : World) :
    Calls Tryz.prog 31 #[.string s] w fun e w' => e = .returned (.string ⟨(shownL s.data.toList).toArray⟩) ∧ Below w.heap.size w w' := by
  have H := Lib.hid (fun W => chex_in s (by omega) W)
  have hl : (hexL s.data.toList).length ≤ 2000000 := by rw [hexL_len]; simp; omega
  unfold shownL
  obtain ⟨D, hD⟩ : ∃ D, hexL s.data.toList = D := ⟨_, rfl⟩
  rw [hD] at H hl ⊢
  have y1 : 1 + D.length ≤ 9223372036854775807 := by omega
  have y2 : 1 + D.length + 1 ≤ 9223372036854775807 := by omega
  have y3 : D.length + 1 + 1 ≤ 9223372036854775807 := by omega
  clear hD
  go_enter Tryz.func31, Tryz.ntmps31
  go_wp2_with fail
  refine (H.out _).mono ?_
  rintro e w1 ⟨rfl, hb1⟩
  go_wp2
  go_ret
  exact ⟨by first | rfl | (simp; done) | skip, hb1⟩
theorem bytes_lo (c : Nat) : ((UInt8.ofNat c).toNat : Int) = ((c % 256 : Nat) : Int) := by simp
set_option maxRecDepth 100000 in
set_option maxHeartbeats 1000000 in
theorem wide_in (c : Nat) (hc : c < 65536) (w : World) :
    Calls Tryz.prog 32 #[.int .i64 c, .bool true] w fun e w' => e = .returned (.string ⟨(codeB c true).toArray⟩) ∧ Below w.heap.size w w' := by
  show Calls _ _ _ _ fun e w' => e = .returned (.string ⟨(unitB c).toArray⟩) ∧ Below w.heap.size w w'
  unfold unitB
  obtain ⟨b1, hb1⟩ : ∃ b, UInt8.ofNat (c / 256) = b := ⟨_, rfl⟩
  obtain ⟨b2, hb2⟩ : ∃ b, UInt8.ofNat c = b := ⟨_, rfl⟩
  rw [hb1, hb2]
  have hcv := conv2 w ((c : Int) / 256) ((c : Int) % 256) b1 b2 (by rw [← hb1]; simp; omega) (by rw [← hb2]; simp) 2
  clear hb1 hb2
  go_enter Tryz.func32, Tryz.ntmps32
  go_wp2
  go_ret
  exact ⟨rfl, (by repeat' (first | (with_reducible first | exact Below.refl _ _ | refine Below.drew ?_ | refine belowDrewN ?_ _ | refine belowIter ?_ ?_ _ _ | refine Below.setCell ?_ ?_ _ | refine Below.alloc ?_ ?_ _ | refine bT hb4 ?_ ?_ | refine bT hb3 ?_ ?_ | refine bT hb2 ?_ ?_ | refine bT hb1 ?_ ?_ | refine bT hbr ?_ ?_ | refine bT hb ?_ ?_) | (simp; done) | (simp; omega) | omega))⟩
set_option maxRecDepth 100000 in
set_option maxHeartbeats 1000000 in
theorem narrow_in (c : Nat) (hc : c < 65536) (w : World) :
    Calls Tryz.prog 32 #[.int .i64 c, .bool false] w fun e w' => e = .returned (.string ⟨(codeB c false).toArray⟩) ∧ Below w.heap.size w w' := by
  show Calls _ _ _ _ fun e w' => e = .returned (.string ⟨([UInt8.ofNat c] : L).toArray⟩) ∧ Below w.heap.size w w'
  obtain ⟨b2, hb2⟩ : ∃ b, UInt8.ofNat c = b := ⟨_, rfl⟩
  rw [hb2]
  have hcv := conv1 w ((c : Int) % 256) b2 (by rw [← hb2]; simp) 1
  clear hb2
  go_enter Tryz.func32, Tryz.ntmps32
  go_wp2
  go_ret
  exact ⟨rfl, (by repeat' (first | (with_reducible first | exact Below.refl _ _ | refine Below.drew ?_ | refine belowDrewN ?_ _ | refine belowIter ?_ ?_ _ _ | refine Below.setCell ?_ ?_ _ | refine Below.alloc ?_ ?_ _ | refine bT hb4 ?_ ?_ | refine bT hb3 ?_ ?_ | refine bT hb2 ?_ ?_ | refine bT hb1 ?_ ?_ | refine bT hbr ?_ ?_ | refine bT hb ?_ ?_) | (simp; done) | (simp; omega) | omega))⟩
theorem code_bytes (c : Nat) (wide : Bool) (hc : c < 65536) (w : World) :
    Calls Tryz.prog 32 #[.int .i64 c, .bool wide] w fun e w' => e = .returned (.string ⟨(codeB c wide).toArray⟩) ∧ Below w.heap.size w w' := by
  cases wide
  · exact narrow_in c hc w
  · exact wide_in c hc w
end Go.Proofs.YtibffdaljmmdoaaGreatDoor
/- Check of the mapping layer. -/
namespace Go.Proofs.YtibffdaljmmdoaaGreatDoor
open Go.RowKit Fo Go.Maps

/-- The two tables of unicode/utf8 lie as their initialisers lay them. -/
def TabsW (w : World) : Prop := Lib.Utf8Tabs 0 1 w
theorem TabsW.lt {w : World} (h : TabsW w) : 0 < w.heap.size ∧ 1 < w.heap.size := by
  refine ⟨?_, ?_⟩
  · have := h.1 0 (by decide)
    exact Decidable.byContradiction fun hn => by
      rw [World.cell?] at this
      rw [Array.getElem?_eq_none (show w.heap.size ≤ 0 by omega)] at this; cases this
  · have := (h.2 0 (by decide)).1
    exact Decidable.byContradiction fun hn => by
      rw [World.cell?] at this
      rw [Array.getElem?_eq_none (show w.heap.size ≤ 1 by omega)] at this; cases this
theorem TabsW.below {w w' : World} (h : TabsW w) (hb : Below w.heap.size w w') : TabsW w' := by
  obtain ⟨l0, l1⟩ := h.lt
  refine ⟨fun c hc => (World.cell?_of_block (hb.block _ l0)).trans (h.1 c hc), fun i hi => ⟨(World.cell?_of_block (hb.block _ l1)).trans (h.2 i hi).1, (World.cell?_of_block (hb.block _ l1)).trans (h.2 i hi).2⟩⟩
theorem valid_in (x : ByteArray) (hx : x.size ≤ 9223372036854775807) (w : World) (hT : TabsW w) :
    Calls Tryz.prog 40 #[.string x] w fun e w' => e = .returned (.bool (Lib.validD x.data.toList)) ∧ Below w.heap.size w w' :=
  Any.utf8_ValidString Tryz.laysValid x w hx hT
def prevC (m : CM) (k : Nat) : Option Int := if h : 0 < k ∧ k ≤ m.length then some (m[k - 1]'(by omega)).1 else none
theorem prevC_zero (m : CM) : prevC m 0 = none := by simp [prevC]
theorem prevC_succ (m : CM) (k : Nat) (hk : k < m.length) : prevC m (k + 1) = some (m[k]).1 := by
  unfold prevC; rw [dif_pos ⟨by omega, by omega⟩]; simp
theorem check_start {m : CM} {most R : Int} (h : checkGo most none m = R) : checkGo most (prevC m 0) (m.drop 0) = R := by rw [prevC_zero, List.drop_zero]; exact h
theorem check_end {m : CM} {most R : Int} {k : Nat} (hk : m.length ≤ k) (h : checkGo most (prevC m k) (m.drop k) = R) : R = 0 := by rw [List.drop_eq_nil_of_le hk] at h; rw [← h]; rfl
theorem check_step {m : CM} {most R : Int} {k : Nat} (hk : k < m.length) (h : checkGo most (prevC m k) (m.drop k) = R) :
    R = if (m[k]).1 < 0 ∨ most < (m[k]).1 then 2 else if Lib.validD (m[k]).2 = false then 3 else if 512 < (unitsS (m[k]).2).length then 5 else if prevC m k = some (m[k]).1 then 9 else if underC (prevC m k) (m[k]).1 then 1 else checkGo most (prevC m (k + 1)) (m.drop (k + 1)) := by
  rw [List.drop_eq_getElem_cons hk] at h
  rw [prevC_succ m k hk, ← h]
  obtain ⟨c, s⟩ := m[k]
  rfl
set_option maxRecDepth 100000 in
set_option maxHeartbeats 2000000 in
theorem check_in (v : Value) (m : CM) (wide : Bool) (w : World) (hv : MArg w v m) (hm : m.length ≤ 1000000) (hx : ∀ p ∈ m, p.2.length ≤ 1000000) (hT : TabsW w) :
    Calls Tryz.prog 19 #[v, .bool wide] w fun e w' => e = .returned (.int .i64 (checkC m wide)) ∧ Below w.heap.size w w' := by
  obtain ⟨p, cp, rfl, hcell⟩ := hv
  have HC := Lib.hid hcell
  have HXL := Lib.hid hx
  clear hcell hx
  obtain ⟨N, hN⟩ : ∃ N, m.length = N := ⟨_, rfl⟩
  obtain ⟨most, hmost⟩ : ∃ most, mostC wide = most := ⟨_, rfl⟩
  obtain ⟨R, hR⟩ : ∃ R, checkC m wide = R := ⟨_, rfl⟩
  rw [hR]
  unfold checkC at hR
  rw [hN] at hR ⊢
  rw [hmost] at hR
  have hN1 : N ≤ 1000000 := by omega
  by_cases hbig : 4096 < N
  · rw [if_pos hbig] at hR
    subst hR
    have d0 : decide ((4096 : Int) < (N : Int)) = true := by simp; omega
    clear hbig hmost
    cases wide
    · go_enter Tryz.func19, Tryz.ntmps19
      go_wp2
      go_ret
      exact ⟨rfl, (by repeat' (first | (with_reducible first | exact Below.refl _ _ | refine Below.drew ?_ | refine belowDrewN ?_ _ | refine belowIter ?_ ?_ _ _ | refine Below.setCell ?_ ?_ _ | refine Below.alloc ?_ ?_ _ | refine bT hb4 ?_ ?_ | refine bT hb3 ?_ ?_ | refine bT hb2 ?_ ?_ | refine bT hb1 ?_ ?_ | refine bT hbr ?_ ?_ | refine bT hb ?_ ?_) | (simp; done) | (simp; omega) | omega))⟩
    · go_enter Tryz.func19, Tryz.ntmps19
      go_wp2
      go_ret
      exact ⟨rfl, (by repeat' (first | (with_reducible first | exact Below.refl _ _ | refine Below.drew ?_ | refine belowDrewN ?_ _ | refine belowIter ?_ ?_ _ _ | refine Below.setCell ?_ ?_ _ | refine Below.alloc ?_ ?_ _ | refine bT hb4 ?_ ?_ | refine bT hb3 ?_ ?_ | refine bT hb2 ?_ ?_ | refine bT hb1 ?_ ?_ | refine bT hbr ?_ ?_ | refine bT hb ?_ ?_) | (simp; done) | (simp; omega) | omega))⟩
  · rw [if_neg hbig] at hR
    have d0 : decide ((4096 : Int) < (N : Int)) = false := by simp; omega
    have HR := Lib.hid hR
    clear hR hbig
    go_enter Tryz.func19, Tryz.ntmps19
    cases wide
    · obtain rfl : most = 255 := hmost.symm
      go_wp2
      go_loopw [14] (fun i wr => ∃ k : Nat, k ≤ N ∧ i = .int .i64 k ∧ Hid (checkGo 255 (prevC m k) (m.drop k) = R) ∧ Below w.heap.size w wr) (fun i _ => N - (intOf i).toNat)
      case atStart => exact ⟨0, Nat.zero_le _, rfl, Lib.hid (check_start HR.out), Below.refl _ _⟩
      case round =>
        obtain ⟨k, hk, rfl, HX, hbr⟩ := hrel
        have hzr := hbr.size
        have hTr := hT.below hbr
        by_cases hlk : k < N
        rotate_left
        · obtain rfl := check_end (by omega) HX.out
          go_wp2
          go_ret
          exact ⟨rfl, hbr⟩
        have hlk2 : k < m.length := by rw [hN]; exact hlk
        obtain ⟨g, off, rfl, hg, d0, d1⟩ := HC.out k hlk2
        have hxl := HXL.out _ (List.getElem_mem hlk2)
        have hst := check_step hlk2 HX.out
        obtain ⟨d, hd⟩ : ∃ d, (m[k]).1 = d := ⟨_, rfl⟩
        obtain ⟨x, hx⟩ : ∃ x, (m[k]).2 = x := ⟨_, rfl⟩
        rw [hd] at d0 hst
        rw [hx] at d1 hst hxl
        have c0 := (World.cell?_of_block (hbr.block g hg)).trans d0
        have c1 := (World.cell?_of_block (hbr.block g hg)).trans d1
        clear d0 d1 HX
        by_cases hrange : d < 0 ∨ 255 < d
        · rw [if_pos hrange] at hst
          subst hst
          by_cases hneg : d < 0
          · have e1 : decide (d < 0) = true := by simpa using hneg
            clear hneg hrange
            go_wp2
            go_ret
            exact ⟨rfl, (by repeat' (first | (with_reducible first | exact Below.refl _ _ | refine Below.drew ?_ | refine belowDrewN ?_ _ | refine belowIter ?_ ?_ _ _ | refine Below.setCell ?_ ?_ _ | refine Below.alloc ?_ ?_ _ | refine bT hb4 ?_ ?_ | refine bT hb3 ?_ ?_ | refine bT hb2 ?_ ?_ | refine bT hb1 ?_ ?_ | refine bT hbr ?_ ?_ | refine bT hb ?_ ?_) | (simp; done) | (simp; omega) | omega))⟩
          · have e1 : decide (d < 0) = false := by simpa using hneg
            have e2 : decide (255 < d) = true := by rcases hrange with h | h; exact absurd h hneg; simpa using h
            clear hneg hrange
            go_wp2
            go_ret
            exact ⟨rfl, (by repeat' (first | (with_reducible first | exact Below.refl _ _ | refine Below.drew ?_ | refine belowDrewN ?_ _ | refine belowIter ?_ ?_ _ _ | refine Below.setCell ?_ ?_ _ | refine Below.alloc ?_ ?_ _ | refine bT hb4 ?_ ?_ | refine bT hb3 ?_ ?_ | refine bT hb2 ?_ ?_ | refine bT hb1 ?_ ?_ | refine bT hbr ?_ ?_ | refine bT hb ?_ ?_) | (simp; done) | (simp; omega) | omega))⟩
        rw [if_neg hrange] at hst
        have e1 : decide (d < 0) = false := by simp; omega
        have e2 : decide (255 < d) = false := by simp; omega
        clear hrange
        have HV := Lib.hid (fun W hW => valid_in ⟨x.toArray⟩ (by show x.length ≤ _; omega) W hW)
        have HU := Lib.hid (fun W => Units_in ⟨x.toArray⟩ (by show x.length ≤ _; omega) W)
        simp only [List.toList_toArray] at HV HU
        obtain ⟨V, hV⟩ : ∃ V, Lib.validD x = V := ⟨_, rfl⟩
        rw [hV] at HV hst
        cases V with
        | false =>
          rw [if_pos rfl] at hst
          subst hst
          go_wp2_with fail
          refine (HV.out _ (hTr.below (by repeat' (first | (with_reducible first | exact Below.refl _ _ | refine Below.drew ?_ | refine belowDrewN ?_ _ | refine belowIter ?_ ?_ _ _ | refine Below.setCell ?_ ?_ _ | refine Below.alloc ?_ ?_ _ | refine bT hb4 ?_ ?_ | refine bT hb3 ?_ ?_ | refine bT hb2 ?_ ?_ | refine bT hb1 ?_ ?_ | refine bT hbr ?_ ?_ | refine bT hb ?_ ?_) | (simp; done) | (simp; omega) | omega)))).mono ?_
          rintro e w1 ⟨rfl, hb1⟩
          have hz1 := hb1.size
          simp at hz1
          have HB1 := Lib.hid (hbr.trans (((show Below wr.heap.size wr (wr.alloc (.cells #[.int .i64 d, .string ⟨x.toArray⟩] 44)) from (Below.refl _ _).alloc (Nat.le_refl _) _).trans (hb1.mono (by simp))).mono hzr))
          have HE1 := Lib.hid (fun o (h : (wr.alloc (.cells #[.int .i64 d, .string ⟨x.toArray⟩] 44)).heap[wr.heap.size]? = some o) => (hb1.block wr.heap.size (by simp)).trans h)
          have t1 : w1.cell? ⟨wr.heap.size, 1, none⟩ = some (.string ⟨x.toArray⟩) := by rw [World.cell?_of_block (hb1.block wr.heap.size (by simp))]; simp [go_sem]
          have t0 : w1.cell? ⟨wr.heap.size, 0, none⟩ = some (.int .i64 d) := by rw [World.cell?_of_block (hb1.block wr.heap.size (by simp))]; simp [go_sem]
          go_wp2
          go_ret
          exact ⟨rfl, HB1.out⟩
        | true =>
          rw [if_neg (by decide)] at hst
          obtain ⟨U, hU⟩ : ∃ U, unitsS x = U := ⟨_, rfl⟩
          rw [hU] at HU hst
          clear hU hV
          by_cases hul : 512 < U.length
          · rw [if_pos hul] at hst
            subst hst
            have e3 : decide ((512 : Int) < (U.length : Int)) = true := by simp; omega
            clear hul
            go_wp2_with fail
            refine (HV.out _ (hTr.below (by repeat' (first | (with_reducible first | exact Below.refl _ _ | refine Below.drew ?_ | refine belowDrewN ?_ _ | refine belowIter ?_ ?_ _ _ | refine Below.setCell ?_ ?_ _ | refine Below.alloc ?_ ?_ _ | refine bT hb4 ?_ ?_ | refine bT hb3 ?_ ?_ | refine bT hb2 ?_ ?_ | refine bT hb1 ?_ ?_ | refine bT hbr ?_ ?_ | refine bT hb ?_ ?_) | (simp; done) | (simp; omega) | omega)))).mono ?_
            rintro e w1 ⟨rfl, hb1⟩
            have hz1 := hb1.size
            simp at hz1
            have HB1 := Lib.hid (hbr.trans (((show Below wr.heap.size wr (wr.alloc (.cells #[.int .i64 d, .string ⟨x.toArray⟩] 44)) from (Below.refl _ _).alloc (Nat.le_refl _) _).trans (hb1.mono (by simp))).mono hzr))
            have HE1 := Lib.hid (fun o (h : (wr.alloc (.cells #[.int .i64 d, .string ⟨x.toArray⟩] 44)).heap[wr.heap.size]? = some o) => (hb1.block wr.heap.size (by simp)).trans h)
            have t1 : w1.cell? ⟨wr.heap.size, 1, none⟩ = some (.string ⟨x.toArray⟩) := by rw [World.cell?_of_block (hb1.block wr.heap.size (by simp))]; simp [go_sem]
            have t0 : w1.cell? ⟨wr.heap.size, 0, none⟩ = some (.int .i64 d) := by rw [World.cell?_of_block (hb1.block wr.heap.size (by simp))]; simp [go_sem]
            go_wp2_with fail
            refine (HU.out _).mono ?_
            rintro e w2 ⟨rfl, hb2⟩
            have hz2 := hb2.size
            have HB2 := Lib.hid (HB1.out.trans (hb2.mono (by omega)))
            have s1 : w2.cell? ⟨wr.heap.size, 1, none⟩ = some (.string ⟨x.toArray⟩) := (World.cell?_of_block (hb2.block wr.heap.size (by omega))).trans t1
            have s0 : w2.cell? ⟨wr.heap.size, 0, none⟩ = some (.int .i64 d) := (World.cell?_of_block (hb2.block wr.heap.size (by omega))).trans t0
            go_wp2
            go_ret
            exact ⟨rfl, HB2.out⟩
          rw [if_neg hul] at hst
          have e3 : decide ((512 : Int) < (U.length : Int)) = false := by simp; omega
          clear hul
          by_cases hk0 : k = 0
          · subst hk0
            have HST := Lib.hid (show checkGo 255 (prevC m 1) (m.drop 1) = R by rw [hst, prevC_zero, if_neg (by simp), if_neg (by simp [underC])])
            clear hst
            rw [Nat.zero_mul, Nat.add_zero] at c0 c1
            go_wp2_with fail
            refine (HV.out _ (hTr.below (by repeat' (first | (with_reducible first | exact Below.refl _ _ | refine Below.drew ?_ | refine belowDrewN ?_ _ | refine belowIter ?_ ?_ _ _ | refine Below.setCell ?_ ?_ _ | refine Below.alloc ?_ ?_ _ | refine bT hb4 ?_ ?_ | refine bT hb3 ?_ ?_ | refine bT hb2 ?_ ?_ | refine bT hb1 ?_ ?_ | refine bT hbr ?_ ?_ | refine bT hb ?_ ?_) | (simp; done) | (simp; omega) | omega)))).mono ?_
            rintro e w1 ⟨rfl, hb1⟩
            have hz1 := hb1.size
            simp at hz1
            have HB1 := Lib.hid (hbr.trans (((show Below wr.heap.size wr (wr.alloc (.cells #[.int .i64 d, .string ⟨x.toArray⟩] 44)) from (Below.refl _ _).alloc (Nat.le_refl _) _).trans (hb1.mono (by simp))).mono hzr))
            have HE1 := Lib.hid (fun o (h : (wr.alloc (.cells #[.int .i64 d, .string ⟨x.toArray⟩] 44)).heap[wr.heap.size]? = some o) => (hb1.block wr.heap.size (by simp)).trans h)
            have t1 : w1.cell? ⟨wr.heap.size, 1, none⟩ = some (.string ⟨x.toArray⟩) := by rw [World.cell?_of_block (hb1.block wr.heap.size (by simp))]; simp [go_sem]
            have t0 : w1.cell? ⟨wr.heap.size, 0, none⟩ = some (.int .i64 d) := by rw [World.cell?_of_block (hb1.block wr.heap.size (by simp))]; simp [go_sem]
            go_wp2_with fail
            refine (HU.out _).mono ?_
            rintro e w2 ⟨rfl, hb2⟩
            have hz2 := hb2.size
            have HB2 := Lib.hid (HB1.out.trans (hb2.mono (by omega)))
            have s1 : w2.cell? ⟨wr.heap.size, 1, none⟩ = some (.string ⟨x.toArray⟩) := (World.cell?_of_block (hb2.block wr.heap.size (by omega))).trans t1
            have s0 : w2.cell? ⟨wr.heap.size, 0, none⟩ = some (.int .i64 d) := (World.cell?_of_block (hb2.block wr.heap.size (by omega))).trans t0
            go_wp2
            go_region
            go_wp2
            go_region
            go_wp2
            go_roundw
            case rel => exact ⟨1, by omega, by go_num, HST, by have hb := HB2.out; exact (by repeat' (first | (with_reducible first | exact Below.refl _ _ | refine Below.drew ?_ | refine belowDrewN ?_ _ | refine belowIter ?_ ?_ _ _ | refine Below.setCell ?_ ?_ _ | refine Below.alloc ?_ ?_ _ | refine bT hb4 ?_ ?_ | refine bT hb3 ?_ ?_ | refine bT hb2 ?_ ?_ | refine bT hb1 ?_ ?_ | refine bT hbr ?_ ?_ | refine bT hb ?_ ?_) | (simp; done) | (simp; omega) | omega))⟩
            case measure => simp [intOf]; omega
          · obtain ⟨j, rfl⟩ : ∃ j, k = j + 1 := ⟨k - 1, by omega⟩
            clear hk0
            have hjm : j < m.length := by omega
            have hjN : j < N := by omega
            obtain ⟨g2, off2, hgg, _, d0, _⟩ := HC.out j hjm
            obtain ⟨rfl, rfl⟩ : g2 = g ∧ off2 = off := by simp at hgg; exact ⟨hgg.1.symm, hgg.2.symm⟩
            have hpv : prevC m (j + 1) = some (m[j]).1 := prevC_succ m j hjm
            obtain ⟨pd, hpd⟩ : ∃ pd, (m[j]).1 = pd := ⟨_, rfl⟩
            rw [hpd] at d0 hpv
            rw [hpv] at hst
            have p0 := (World.cell?_of_block (hbr.block g2 hg)).trans d0
            have q2 : IntKind.i64.wrap (j : Int) = (j : Int) := IntWalk.i64_in _ (by omega)
            have e4 : decide ((0 : Int) < (j : Int) + 1) = true := decide_eq_true (by omega)
            clear d0 hpd hpv hgg
            by_cases heq : pd = d
            · rw [if_pos (by rw [heq])] at hst
              subst hst
              have e5 : (d == pd) = true := by simpa using heq.symm
              clear heq
              go_wp2_with fail
              refine (HV.out _ (hTr.below (by repeat' (first | (with_reducible first | exact Below.refl _ _ | refine Below.drew ?_ | refine belowDrewN ?_ _ | refine belowIter ?_ ?_ _ _ | refine Below.setCell ?_ ?_ _ | refine Below.alloc ?_ ?_ _ | refine bT hb4 ?_ ?_ | refine bT hb3 ?_ ?_ | refine bT hb2 ?_ ?_ | refine bT hb1 ?_ ?_ | refine bT hbr ?_ ?_ | refine bT hb ?_ ?_) | (simp; done) | (simp; omega) | omega)))).mono ?_
              rintro e w1 ⟨rfl, hb1⟩
              have hz1 := hb1.size
              simp at hz1
              have HB1 := Lib.hid (hbr.trans (((show Below wr.heap.size wr (wr.alloc (.cells #[.int .i64 d, .string ⟨x.toArray⟩] 44)) from (Below.refl _ _).alloc (Nat.le_refl _) _).trans (hb1.mono (by simp))).mono hzr))
              have HE1 := Lib.hid (fun o (h : (wr.alloc (.cells #[.int .i64 d, .string ⟨x.toArray⟩] 44)).heap[wr.heap.size]? = some o) => (hb1.block wr.heap.size (by simp)).trans h)
              have t1 : w1.cell? ⟨wr.heap.size, 1, none⟩ = some (.string ⟨x.toArray⟩) := by rw [World.cell?_of_block (hb1.block wr.heap.size (by simp))]; simp [go_sem]
              have t0 : w1.cell? ⟨wr.heap.size, 0, none⟩ = some (.int .i64 d) := by rw [World.cell?_of_block (hb1.block wr.heap.size (by simp))]; simp [go_sem]
              go_wp2_with fail
              refine (HU.out _).mono ?_
              rintro e w2 ⟨rfl, hb2⟩
              have hz2 := hb2.size
              have HB2 := Lib.hid (HB1.out.trans (hb2.mono (by omega)))
              have s1 : w2.cell? ⟨wr.heap.size, 1, none⟩ = some (.string ⟨x.toArray⟩) := (World.cell?_of_block (hb2.block wr.heap.size (by omega))).trans t1
              have s0 : w2.cell? ⟨wr.heap.size, 0, none⟩ = some (.int .i64 d) := (World.cell?_of_block (hb2.block wr.heap.size (by omega))).trans t0
              have hgl : g2 < w2.heap.size := by omega
              have p2 : w2.cell? ⟨g2, off2 + j * 2, none⟩ = some (.int .i64 pd) := by
                rw [World.cell?_of_block (hb2.block g2 (by omega)), World.cell?_of_block (hb1.block g2 (by simp; omega)), World.cell?_of_block (Below.heap_alloc _ _ g2 (by omega))]; exact p0
              go_wp2
              go_quiet (fail)
              go_wp2
              go_ret
              exact ⟨rfl, by have hb := HB2.out; exact (by repeat' (first | (with_reducible first | exact Below.refl _ _ | refine Below.drew ?_ | refine belowDrewN ?_ _ | refine belowIter ?_ ?_ _ _ | refine Below.setCell ?_ ?_ _ | refine Below.alloc ?_ ?_ _ | refine bT hb4 ?_ ?_ | refine bT hb3 ?_ ?_ | refine bT hb2 ?_ ?_ | refine bT hb1 ?_ ?_ | refine bT hbr ?_ ?_ | refine bT hb ?_ ?_) | (simp; done) | (simp; omega) | omega))⟩
            rw [if_neg (fun h => heq (Option.some.inj h))] at hst
            have e5 : (d == pd) = false := by simpa using fun h => heq h.symm
            by_cases hun : d < pd
            · rw [if_pos (by simpa [underC] using hun)] at hst
              subst hst
              have e6 : decide (d < pd) = true := by simpa using hun
              clear heq hun
              go_wp2_with fail
              refine (HV.out _ (hTr.below (by repeat' (first | (with_reducible first | exact Below.refl _ _ | refine Below.drew ?_ | refine belowDrewN ?_ _ | refine belowIter ?_ ?_ _ _ | refine Below.setCell ?_ ?_ _ | refine Below.alloc ?_ ?_ _ | refine bT hb4 ?_ ?_ | refine bT hb3 ?_ ?_ | refine bT hb2 ?_ ?_ | refine bT hb1 ?_ ?_ | refine bT hbr ?_ ?_ | refine bT hb ?_ ?_) | (simp; done) | (simp; omega) | omega)))).mono ?_
              rintro e w1 ⟨rfl, hb1⟩
              have hz1 := hb1.size
              simp at hz1
              have HB1 := Lib.hid (hbr.trans (((show Below wr.heap.size wr (wr.alloc (.cells #[.int .i64 d, .string ⟨x.toArray⟩] 44)) from (Below.refl _ _).alloc (Nat.le_refl _) _).trans (hb1.mono (by simp))).mono hzr))
              have HE1 := Lib.hid (fun o (h : (wr.alloc (.cells #[.int .i64 d, .string ⟨x.toArray⟩] 44)).heap[wr.heap.size]? = some o) => (hb1.block wr.heap.size (by simp)).trans h)
              have t1 : w1.cell? ⟨wr.heap.size, 1, none⟩ = some (.string ⟨x.toArray⟩) := by rw [World.cell?_of_block (hb1.block wr.heap.size (by simp))]; simp [go_sem]
              have t0 : w1.cell? ⟨wr.heap.size, 0, none⟩ = some (.int .i64 d) := by rw [World.cell?_of_block (hb1.block wr.heap.size (by simp))]; simp [go_sem]
              go_wp2_with fail
              refine (HU.out _).mono ?_
              rintro e w2 ⟨rfl, hb2⟩
              have hz2 := hb2.size
              have HB2 := Lib.hid (HB1.out.trans (hb2.mono (by omega)))
              have s1 : w2.cell? ⟨wr.heap.size, 1, none⟩ = some (.string ⟨x.toArray⟩) := (World.cell?_of_block (hb2.block wr.heap.size (by omega))).trans t1
              have s0 : w2.cell? ⟨wr.heap.size, 0, none⟩ = some (.int .i64 d) := (World.cell?_of_block (hb2.block wr.heap.size (by omega))).trans t0
              have hgl : g2 < w2.heap.size := by omega
              have p2 : w2.cell? ⟨g2, off2 + j * 2, none⟩ = some (.int .i64 pd) := by
                rw [World.cell?_of_block (hb2.block g2 (by omega)), World.cell?_of_block (hb1.block g2 (by simp; omega)), World.cell?_of_block (Below.heap_alloc _ _ g2 (by omega))]; exact p0
              go_wp2
              go_quiet (fail)
              go_wp2
              go_quiet (fail)
              go_wp2
              go_ret
              exact ⟨rfl, by have hb := HB2.out; exact (by repeat' (first | (with_reducible first | exact Below.refl _ _ | refine Below.drew ?_ | refine belowDrewN ?_ _ | refine belowIter ?_ ?_ _ _ | refine Below.setCell ?_ ?_ _ | refine Below.alloc ?_ ?_ _ | refine bT hb4 ?_ ?_ | refine bT hb3 ?_ ?_ | refine bT hb2 ?_ ?_ | refine bT hb1 ?_ ?_ | refine bT hbr ?_ ?_ | refine bT hb ?_ ?_) | (simp; done) | (simp; omega) | omega))⟩
            have HST := Lib.hid (show checkGo 255 (prevC m (j + 1 + 1)) (m.drop (j + 1 + 1)) = R by rw [hst, if_neg (by simpa [underC] using hun)])
            have e6 : decide (d < pd) = false := by simpa using hun
            clear heq hun hst
            go_wp2_with fail
            refine (HV.out _ (hTr.below (by repeat' (first | (with_reducible first | exact Below.refl _ _ | refine Below.drew ?_ | refine belowDrewN ?_ _ | refine belowIter ?_ ?_ _ _ | refine Below.setCell ?_ ?_ _ | refine Below.alloc ?_ ?_ _ | refine bT hb4 ?_ ?_ | refine bT hb3 ?_ ?_ | refine bT hb2 ?_ ?_ | refine bT hb1 ?_ ?_ | refine bT hbr ?_ ?_ | refine bT hb ?_ ?_) | (simp; done) | (simp; omega) | omega)))).mono ?_
            rintro e w1 ⟨rfl, hb1⟩
            have hz1 := hb1.size
            simp at hz1
            have HB1 := Lib.hid (hbr.trans (((show Below wr.heap.size wr (wr.alloc (.cells #[.int .i64 d, .string ⟨x.toArray⟩] 44)) from (Below.refl _ _).alloc (Nat.le_refl _) _).trans (hb1.mono (by simp))).mono hzr))
            have HE1 := Lib.hid (fun o (h : (wr.alloc (.cells #[.int .i64 d, .string ⟨x.toArray⟩] 44)).heap[wr.heap.size]? = some o) => (hb1.block wr.heap.size (by simp)).trans h)
            have t1 : w1.cell? ⟨wr.heap.size, 1, none⟩ = some (.string ⟨x.toArray⟩) := by rw [World.cell?_of_block (hb1.block wr.heap.size (by simp))]; simp [go_sem]
            have t0 : w1.cell? ⟨wr.heap.size, 0, none⟩ = some (.int .i64 d) := by rw [World.cell?_of_block (hb1.block wr.heap.size (by simp))]; simp [go_sem]
            go_wp2_with fail
            refine (HU.out _).mono ?_
            rintro e w2 ⟨rfl, hb2⟩
            have hz2 := hb2.size
            have HB2 := Lib.hid (HB1.out.trans (hb2.mono (by omega)))
            have s1 : w2.cell? ⟨wr.heap.size, 1, none⟩ = some (.string ⟨x.toArray⟩) := (World.cell?_of_block (hb2.block wr.heap.size (by omega))).trans t1
            have s0 : w2.cell? ⟨wr.heap.size, 0, none⟩ = some (.int .i64 d) := (World.cell?_of_block (hb2.block wr.heap.size (by omega))).trans t0
            have hgl : g2 < w2.heap.size := by omega
            have p2 : w2.cell? ⟨g2, off2 + j * 2, none⟩ = some (.int .i64 pd) := by
              rw [World.cell?_of_block (hb2.block g2 (by omega)), World.cell?_of_block (hb1.block g2 (by simp; omega)), World.cell?_of_block (Below.heap_alloc _ _ g2 (by omega))]; exact p0
            go_wp2
            go_quiet (fail)
            go_wp2
            go_quiet (fail)
            go_wp2
            go_roundw
            case rel => exact ⟨j + 1 + 1, by omega, by go_num, HST, by have hb := HB2.out; exact (by repeat' (first | (with_reducible first | exact Below.refl _ _ | refine Below.drew ?_ | refine belowDrewN ?_ _ | refine belowIter ?_ ?_ _ _ | refine Below.setCell ?_ ?_ _ | refine Below.alloc ?_ ?_ _ | refine bT hb4 ?_ ?_ | refine bT hb3 ?_ ?_ | refine bT hb2 ?_ ?_ | refine bT hb1 ?_ ?_ | refine bT hbr ?_ ?_ | refine bT hb ?_ ?_) | (simp; done) | (simp; omega) | omega))⟩
            case measure => simp [intOf]; omega
    · obtain rfl : most = 65535 := hmost.symm
      go_wp2
      go_loopw [14] (fun i wr => ∃ k : Nat, k ≤ N ∧ i = .int .i64 k ∧ Hid (checkGo 65535 (prevC m k) (m.drop k) = R) ∧ Below w.heap.size w wr) (fun i _ => N - (intOf i).toNat)
      case atStart => exact ⟨0, Nat.zero_le _, rfl, Lib.hid (check_start HR.out), Below.refl _ _⟩
      case round =>
        obtain ⟨k, hk, rfl, HX, hbr⟩ := hrel
        have hzr := hbr.size
        have hTr := hT.below hbr
        by_cases hlk : k < N
        rotate_left
        · obtain rfl := check_end (by omega) HX.out
          go_wp2
          go_ret
          exact ⟨rfl, hbr⟩
        have hlk2 : k < m.length := by rw [hN]; exact hlk
        obtain ⟨g, off, rfl, hg, d0, d1⟩ := HC.out k hlk2
        have hxl := HXL.out _ (List.getElem_mem hlk2)
        have hst := check_step hlk2 HX.out
        obtain ⟨d, hd⟩ : ∃ d, (m[k]).1 = d := ⟨_, rfl⟩
        obtain ⟨x, hx⟩ : ∃ x, (m[k]).2 = x := ⟨_, rfl⟩
        rw [hd] at d0 hst
        rw [hx] at d1 hst hxl
        have c0 := (World.cell?_of_block (hbr.block g hg)).trans d0
        have c1 := (World.cell?_of_block (hbr.block g hg)).trans d1
        clear d0 d1 HX
        by_cases hrange : d < 0 ∨ 65535 < d
        · rw [if_pos hrange] at hst
          subst hst
          by_cases hneg : d < 0
          · have e1 : decide (d < 0) = true := by simpa using hneg
            clear hneg hrange
            go_wp2
            go_ret
            exact ⟨rfl, (by repeat' (first | (with_reducible first | exact Below.refl _ _ | refine Below.drew ?_ | refine belowDrewN ?_ _ | refine belowIter ?_ ?_ _ _ | refine Below.setCell ?_ ?_ _ | refine Below.alloc ?_ ?_ _ | refine bT hb4 ?_ ?_ | refine bT hb3 ?_ ?_ | refine bT hb2 ?_ ?_ | refine bT hb1 ?_ ?_ | refine bT hbr ?_ ?_ | refine bT hb ?_ ?_) | (simp; done) | (simp; omega) | omega))⟩
          · have e1 : decide (d < 0) = false := by simpa using hneg
            have e2 : decide (65535 < d) = true := by rcases hrange with h | h; exact absurd h hneg; simpa using h
            clear hneg hrange
            go_wp2
            go_ret
            exact ⟨rfl, (by repeat' (first | (with_reducible first | exact Below.refl _ _ | refine Below.drew ?_ | refine belowDrewN ?_ _ | refine belowIter ?_ ?_ _ _ | refine Below.setCell ?_ ?_ _ | refine Below.alloc ?_ ?_ _ | refine bT hb4 ?_ ?_ | refine bT hb3 ?_ ?_ | refine bT hb2 ?_ ?_ | refine bT hb1 ?_ ?_ | refine bT hbr ?_ ?_ | refine bT hb ?_ ?_) | (simp; done) | (simp; omega) | omega))⟩
        rw [if_neg hrange] at hst
        have e1 : decide (d < 0) = false := by simp; omega
        have e2 : decide (65535 < d) = false := by simp; omega
        clear hrange
        have HV := Lib.hid (fun W hW => valid_in ⟨x.toArray⟩ (by show x.length ≤ _; omega) W hW)
        have HU := Lib.hid (fun W => Units_in ⟨x.toArray⟩ (by show x.length ≤ _; omega) W)
        simp only [List.toList_toArray] at HV HU
        obtain ⟨V, hV⟩ : ∃ V, Lib.validD x = V := ⟨_, rfl⟩
        rw [hV] at HV hst
        cases V with
        | false =>
          rw [if_pos rfl] at hst
          subst hst
          go_wp2_with fail
          refine (HV.out _ (hTr.below (by repeat' (first | (with_reducible first | exact Below.refl _ _ | refine Below.drew ?_ | refine belowDrewN ?_ _ | refine belowIter ?_ ?_ _ _ | refine Below.setCell ?_ ?_ _ | refine Below.alloc ?_ ?_ _ | refine bT hb4 ?_ ?_ | refine bT hb3 ?_ ?_ | refine bT hb2 ?_ ?_ | refine bT hb1 ?_ ?_ | refine bT hbr ?_ ?_ | refine bT hb ?_ ?_) | (simp; done) | (simp; omega) | omega)))).mono ?_
          rintro e w1 ⟨rfl, hb1⟩
          have hz1 := hb1.size
          simp at hz1
          have HB1 := Lib.hid (hbr.trans (((show Below wr.heap.size wr (wr.alloc (.cells #[.int .i64 d, .string ⟨x.toArray⟩] 44)) from (Below.refl _ _).alloc (Nat.le_refl _) _).trans (hb1.mono (by simp))).mono hzr))
          have HE1 := Lib.hid (fun o (h : (wr.alloc (.cells #[.int .i64 d, .string ⟨x.toArray⟩] 44)).heap[wr.heap.size]? = some o) => (hb1.block wr.heap.size (by simp)).trans h)
          have t1 : w1.cell? ⟨wr.heap.size, 1, none⟩ = some (.string ⟨x.toArray⟩) := by rw [World.cell?_of_block (hb1.block wr.heap.size (by simp))]; simp [go_sem]
          have t0 : w1.cell? ⟨wr.heap.size, 0, none⟩ = some (.int .i64 d) := by rw [World.cell?_of_block (hb1.block wr.heap.size (by simp))]; simp [go_sem]
          go_wp2
          go_ret
          exact ⟨rfl, HB1.out⟩
        | true =>
          rw [if_neg (by decide)] at hst
          obtain ⟨U, hU⟩ : ∃ U, unitsS x = U := ⟨_, rfl⟩
          rw [hU] at HU hst
          clear hU hV
          by_cases hul : 512 < U.length
          · rw [if_pos hul] at hst
            subst hst
            have e3 : decide ((512 : Int) < (U.length : Int)) = true := by simp; omega
            clear hul
            go_wp2_with fail
            refine (HV.out _ (hTr.below (by repeat' (first | (with_reducible first | exact Below.refl _ _ | refine Below.drew ?_ | refine belowDrewN ?_ _ | refine belowIter ?_ ?_ _ _ | refine Below.setCell ?_ ?_ _ | refine Below.alloc ?_ ?_ _ | refine bT hb4 ?_ ?_ | refine bT hb3 ?_ ?_ | refine bT hb2 ?_ ?_ | refine bT hb1 ?_ ?_ | refine bT hbr ?_ ?_ | refine bT hb ?_ ?_) | (simp; done) | (simp; omega) | omega)))).mono ?_
            rintro e w1 ⟨rfl, hb1⟩
            have hz1 := hb1.size
            simp at hz1
            have HB1 := Lib.hid (hbr.trans (((show Below wr.heap.size wr (wr.alloc (.cells #[.int .i64 d, .string ⟨x.toArray⟩] 44)) from (Below.refl _ _).alloc (Nat.le_refl _) _).trans (hb1.mono (by simp))).mono hzr))
            have HE1 := Lib.hid (fun o (h : (wr.alloc (.cells #[.int .i64 d, .string ⟨x.toArray⟩] 44)).heap[wr.heap.size]? = some o) => (hb1.block wr.heap.size (by simp)).trans h)
            have t1 : w1.cell? ⟨wr.heap.size, 1, none⟩ = some (.string ⟨x.toArray⟩) := by rw [World.cell?_of_block (hb1.block wr.heap.size (by simp))]; simp [go_sem]
            have t0 : w1.cell? ⟨wr.heap.size, 0, none⟩ = some (.int .i64 d) := by rw [World.cell?_of_block (hb1.block wr.heap.size (by simp))]; simp [go_sem]
            go_wp2_with fail
            refine (HU.out _).mono ?_
            rintro e w2 ⟨rfl, hb2⟩
            have hz2 := hb2.size
            have HB2 := Lib.hid (HB1.out.trans (hb2.mono (by omega)))
            have s1 : w2.cell? ⟨wr.heap.size, 1, none⟩ = some (.string ⟨x.toArray⟩) := (World.cell?_of_block (hb2.block wr.heap.size (by omega))).trans t1
            have s0 : w2.cell? ⟨wr.heap.size, 0, none⟩ = some (.int .i64 d) := (World.cell?_of_block (hb2.block wr.heap.size (by omega))).trans t0
            go_wp2
            go_ret
            exact ⟨rfl, HB2.out⟩
          rw [if_neg hul] at hst
          have e3 : decide ((512 : Int) < (U.length : Int)) = false := by simp; omega
          clear hul
          by_cases hk0 : k = 0
          · subst hk0
            have HST := Lib.hid (show checkGo 65535 (prevC m 1) (m.drop 1) = R by rw [hst, prevC_zero, if_neg (by simp), if_neg (by simp [underC])])
            clear hst
            rw [Nat.zero_mul, Nat.add_zero] at c0 c1
            go_wp2_with fail
            refine (HV.out _ (hTr.below (by repeat' (first | (with_reducible first | exact Below.refl _ _ | refine Below.drew ?_ | refine belowDrewN ?_ _ | refine belowIter ?_ ?_ _ _ | refine Below.setCell ?_ ?_ _ | refine Below.alloc ?_ ?_ _ | refine bT hb4 ?_ ?_ | refine bT hb3 ?_ ?_ | refine bT hb2 ?_ ?_ | refine bT hb1 ?_ ?_ | refine bT hbr ?_ ?_ | refine bT hb ?_ ?_) | (simp; done) | (simp; omega) | omega)))).mono ?_
            rintro e w1 ⟨rfl, hb1⟩
            have hz1 := hb1.size
            simp at hz1
            have HB1 := Lib.hid (hbr.trans (((show Below wr.heap.size wr (wr.alloc (.cells #[.int .i64 d, .string ⟨x.toArray⟩] 44)) from (Below.refl _ _).alloc (Nat.le_refl _) _).trans (hb1.mono (by simp))).mono hzr))
            have HE1 := Lib.hid (fun o (h : (wr.alloc (.cells #[.int .i64 d, .string ⟨x.toArray⟩] 44)).heap[wr.heap.size]? = some o) => (hb1.block wr.heap.size (by simp)).trans h)
            have t1 : w1.cell? ⟨wr.heap.size, 1, none⟩ = some (.string ⟨x.toArray⟩) := by rw [World.cell?_of_block (hb1.block wr.heap.size (by simp))]; simp [go_sem]
            have t0 : w1.cell? ⟨wr.heap.size, 0, none⟩ = some (.int .i64 d) := by rw [World.cell?_of_block (hb1.block wr.heap.size (by simp))]; simp [go_sem]
            go_wp2_with fail
            refine (HU.out _).mono ?_
            rintro e w2 ⟨rfl, hb2⟩
            have hz2 := hb2.size
            have HB2 := Lib.hid (HB1.out.trans (hb2.mono (by omega)))
            have s1 : w2.cell? ⟨wr.heap.size, 1, none⟩ = some (.string ⟨x.toArray⟩) := (World.cell?_of_block (hb2.block wr.heap.size (by omega))).trans t1
            have s0 : w2.cell? ⟨wr.heap.size, 0, none⟩ = some (.int .i64 d) := (World.cell?_of_block (hb2.block wr.heap.size (by omega))).trans t0
            go_wp2
            go_region
            go_wp2
            go_region
            go_wp2
            go_roundw
            case rel => exact ⟨1, by omega, by go_num, HST, by have hb := HB2.out; exact (by repeat' (first | (with_reducible first | exact Below.refl _ _ | refine Below.drew ?_ | refine belowDrewN ?_ _ | refine belowIter ?_ ?_ _ _ | refine Below.setCell ?_ ?_ _ | refine Below.alloc ?_ ?_ _ | refine bT hb4 ?_ ?_ | refine bT hb3 ?_ ?_ | refine bT hb2 ?_ ?_ | refine bT hb1 ?_ ?_ | refine bT hbr ?_ ?_ | refine bT hb ?_ ?_) | (simp; done) | (simp; omega) | omega))⟩
            case measure => simp [intOf]; omega
          · obtain ⟨j, rfl⟩ : ∃ j, k = j + 1 := ⟨k - 1, by omega⟩
            clear hk0
            have hjm : j < m.length := by omega
            have hjN : j < N := by omega
            obtain ⟨g2, off2, hgg, _, d0, _⟩ := HC.out j hjm
            obtain ⟨rfl, rfl⟩ : g2 = g ∧ off2 = off := by simp at hgg; exact ⟨hgg.1.symm, hgg.2.symm⟩
            have hpv : prevC m (j + 1) = some (m[j]).1 := prevC_succ m j hjm
            obtain ⟨pd, hpd⟩ : ∃ pd, (m[j]).1 = pd := ⟨_, rfl⟩
            rw [hpd] at d0 hpv
            rw [hpv] at hst
            have p0 := (World.cell?_of_block (hbr.block g2 hg)).trans d0
            have q2 : IntKind.i64.wrap (j : Int) = (j : Int) := IntWalk.i64_in _ (by omega)
            have e4 : decide ((0 : Int) < (j : Int) + 1) = true := decide_eq_true (by omega)
            clear d0 hpd hpv hgg
            by_cases heq : pd = d
            · rw [if_pos (by rw [heq])] at hst
              subst hst
              have e5 : (d == pd) = true := by simpa using heq.symm
              clear heq
              go_wp2_with fail
              refine (HV.out _ (hTr.below (by repeat' (first | (with_reducible first | exact Below.refl _ _ | refine Below.drew ?_ | refine belowDrewN ?_ _ | refine belowIter ?_ ?_ _ _ | refine Below.setCell ?_ ?_ _ | refine Below.alloc ?_ ?_ _ | refine bT hb4 ?_ ?_ | refine bT hb3 ?_ ?_ | refine bT hb2 ?_ ?_ | refine bT hb1 ?_ ?_ | refine bT hbr ?_ ?_ | refine bT hb ?_ ?_) | (simp; done) | (simp; omega) | omega)))).mono ?_
              rintro e w1 ⟨rfl, hb1⟩
              have hz1 := hb1.size
              simp at hz1
              have HB1 := Lib.hid (hbr.trans (((show Below wr.heap.size wr (wr.alloc (.cells #[.int .i64 d, .string ⟨x.toArray⟩] 44)) from (Below.refl _ _).alloc (Nat.le_refl _) _).trans (hb1.mono (by simp))).mono hzr))
              have HE1 := Lib.hid (fun o (h : (wr.alloc (.cells #[.int .i64 d, .string ⟨x.toArray⟩] 44)).heap[wr.heap.size]? = some o) => (hb1.block wr.heap.size (by simp)).trans h)
              have t1 : w1.cell? ⟨wr.heap.size, 1, none⟩ = some (.string ⟨x.toArray⟩) := by rw [World.cell?_of_block (hb1.block wr.heap.size (by simp))]; simp [go_sem]
              have t0 : w1.cell? ⟨wr.heap.size, 0, none⟩ = some (.int .i64 d) := by rw [World.cell?_of_block (hb1.block wr.heap.size (by simp))]; simp [go_sem]
              go_wp2_with fail
              refine (HU.out _).mono ?_
              rintro e w2 ⟨rfl, hb2⟩
              have hz2 := hb2.size
              have HB2 := Lib.hid (HB1.out.trans (hb2.mono (by omega)))
              have s1 : w2.cell? ⟨wr.heap.size, 1, none⟩ = some (.string ⟨x.toArray⟩) := (World.cell?_of_block (hb2.block wr.heap.size (by omega))).trans t1
              have s0 : w2.cell? ⟨wr.heap.size, 0, none⟩ = some (.int .i64 d) := (World.cell?_of_block (hb2.block wr.heap.size (by omega))).trans t0
              have hgl : g2 < w2.heap.size := by omega
              have p2 : w2.cell? ⟨g2, off2 + j * 2, none⟩ = some (.int .i64 pd) := by
                rw [World.cell?_of_block (hb2.block g2 (by omega)), World.cell?_of_block (hb1.block g2 (by simp; omega)), World.cell?_of_block (Below.heap_alloc _ _ g2 (by omega))]; exact p0
              go_wp2
              go_quiet (fail)
              go_wp2
              go_ret
              exact ⟨rfl, by have hb := HB2.out; exact (by repeat' (first | (with_reducible first | exact Below.refl _ _ | refine Below.drew ?_ | refine belowDrewN ?_ _ | refine belowIter ?_ ?_ _ _ | refine Below.setCell ?_ ?_ _ | refine Below.alloc ?_ ?_ _ | refine bT hb4 ?_ ?_ | refine bT hb3 ?_ ?_ | refine bT hb2 ?_ ?_ | refine bT hb1 ?_ ?_ | refine bT hbr ?_ ?_ | refine bT hb ?_ ?_) | (simp; done) | (simp; omega) | omega))⟩
            rw [if_neg (fun h => heq (Option.some.inj h))] at hst
            have e5 : (d == pd) = false := by simpa using fun h => heq h.symm
            by_cases hun : d < pd
            · rw [if_pos (by simpa [underC] using hun)] at hst
              subst hst
              have e6 : decide (d < pd) = true := by simpa using hun
              clear heq hun
              go_wp2_with fail
              refine (HV.out _ (hTr.below (by repeat' (first | (with_reducible first | exact Below.refl _ _ | refine Below.drew ?_ | refine belowDrewN ?_ _ | refine belowIter ?_ ?_ _ _ | refine Below.setCell ?_ ?_ _ | refine Below.alloc ?_ ?_ _ | refine bT hb4 ?_ ?_ | refine bT hb3 ?_ ?_ | refine bT hb2 ?_ ?_ | refine bT hb1 ?_ ?_ | refine bT hbr ?_ ?_ | refine bT hb ?_ ?_) | (simp; done) | (simp; omega) | omega)))).mono ?_
              rintro e w1 ⟨rfl, hb1⟩
              have hz1 := hb1.size
              simp at hz1
              have HB1 := Lib.hid (hbr.trans (((show Below wr.heap.size wr (wr.alloc (.cells #[.int .i64 d, .string ⟨x.toArray⟩] 44)) from (Below.refl _ _).alloc (Nat.le_refl _) _).trans (hb1.mono (by simp))).mono hzr))
              have HE1 := Lib.hid (fun o (h : (wr.alloc (.cells #[.int .i64 d, .string ⟨x.toArray⟩] 44)).heap[wr.heap.size]? = some o) => (hb1.block wr.heap.size (by simp)).trans h)
              have t1 : w1.cell? ⟨wr.heap.size, 1, none⟩ = some (.string ⟨x.toArray⟩) := by rw [World.cell?_of_block (hb1.block wr.heap.size (by simp))]; simp [go_sem]
              have t0 : w1.cell? ⟨wr.heap.size, 0, none⟩ = some (.int .i64 d) := by rw [World.cell?_of_block (hb1.block wr.heap.size (by simp))]; simp [go_sem]
              go_wp2_with fail
              refine (HU.out _).mono ?_
              rintro e w2 ⟨rfl, hb2⟩
              have hz2 := hb2.size
              have HB2 := Lib.hid (HB1.out.trans (hb2.mono (by omega)))
              have s1 : w2.cell? ⟨wr.heap.size, 1, none⟩ = some (.string ⟨x.toArray⟩) := (World.cell?_of_block (hb2.block wr.heap.size (by omega))).trans t1
              have s0 : w2.cell? ⟨wr.heap.size, 0, none⟩ = some (.int .i64 d) := (World.cell?_of_block (hb2.block wr.heap.size (by omega))).trans t0
              have hgl : g2 < w2.heap.size := by omega
              have p2 : w2.cell? ⟨g2, off2 + j * 2, none⟩ = some (.int .i64 pd) := by
                rw [World.cell?_of_block (hb2.block g2 (by omega)), World.cell?_of_block (hb1.block g2 (by simp; omega)), World.cell?_of_block (Below.heap_alloc _ _ g2 (by omega))]; exact p0
              go_wp2
              go_quiet (fail)
              go_wp2
              go_quiet (fail)
              go_wp2
              go_ret
              exact ⟨rfl, by have hb := HB2.out; exact (by repeat' (first | (with_reducible first | exact Below.refl _ _ | refine Below.drew ?_ | refine belowDrewN ?_ _ | refine belowIter ?_ ?_ _ _ | refine Below.setCell ?_ ?_ _ | refine Below.alloc ?_ ?_ _ | refine bT hb4 ?_ ?_ | refine bT hb3 ?_ ?_ | refine bT hb2 ?_ ?_ | refine bT hb1 ?_ ?_ | refine bT hbr ?_ ?_ | refine bT hb ?_ ?_) | (simp; done) | (simp; omega) | omega))⟩
            have HST := Lib.hid (show checkGo 65535 (prevC m (j + 1 + 1)) (m.drop (j + 1 + 1)) = R by rw [hst, if_neg (by simpa [underC] using hun)])
            have e6 : decide (d < pd) = false := by simpa using hun
            clear heq hun hst
            go_wp2_with fail
            refine (HV.out _ (hTr.below (by repeat' (first | (with_reducible first | exact Below.refl _ _ | refine Below.drew ?_ | refine belowDrewN ?_ _ | refine belowIter ?_ ?_ _ _ | refine Below.setCell ?_ ?_ _ | refine Below.alloc ?_ ?_ _ | refine bT hb4 ?_ ?_ | refine bT hb3 ?_ ?_ | refine bT hb2 ?_ ?_ | refine bT hb1 ?_ ?_ | refine bT hbr ?_ ?_ | refine bT hb ?_ ?_) | (simp; done) | (simp; omega) | omega)))).mono ?_
            rintro e w1 ⟨rfl, hb1⟩
            have hz1 := hb1.size
            simp at hz1
            have HB1 := Lib.hid (hbr.trans (((show Below wr.heap.size wr (wr.alloc (.cells #[.int .i64 d, .string ⟨x.toArray⟩] 44)) from (Below.refl _ _).alloc (Nat.le_refl _) _).trans (hb1.mono (by simp))).mono hzr))
            have HE1 := Lib.hid (fun o (h : (wr.alloc (.cells #[.int .i64 d, .string ⟨x.toArray⟩] 44)).heap[wr.heap.size]? = some o) => (hb1.block wr.heap.size (by simp)).trans h)
            have t1 : w1.cell? ⟨wr.heap.size, 1, none⟩ = some (.string ⟨x.toArray⟩) := by rw [World.cell?_of_block (hb1.block wr.heap.size (by simp))]; simp [go_sem]
            have t0 : w1.cell? ⟨wr.heap.size, 0, none⟩ = some (.int .i64 d) := by rw [World.cell?_of_block (hb1.block wr.heap.size (by simp))]; simp [go_sem]
            go_wp2_with fail
            refine (HU.out _).mono ?_
            rintro e w2 ⟨rfl, hb2⟩
            have hz2 := hb2.size
            have HB2 := Lib.hid (HB1.out.trans (hb2.mono (by omega)))
            have s1 : w2.cell? ⟨wr.heap.size, 1, none⟩ = some (.string ⟨x.toArray⟩) := (World.cell?_of_block (hb2.block wr.heap.size (by omega))).trans t1
            have s0 : w2.cell? ⟨wr.heap.size, 0, none⟩ = some (.int .i64 d) := (World.cell?_of_block (hb2.block wr.heap.size (by omega))).trans t0
            have hgl : g2 < w2.heap.size := by omega
            have p2 : w2.cell? ⟨g2, off2 + j * 2, none⟩ = some (.int .i64 pd) := by
              rw [World.cell?_of_block (hb2.block g2 (by omega)), World.cell?_of_block (hb1.block g2 (by simp; omega)), World.cell?_of_block (Below.heap_alloc _ _ g2 (by omega))]; exact p0
            go_wp2
            go_quiet (fail)
            go_wp2
            go_quiet (fail)
            go_wp2
            go_roundw
            case rel => exact ⟨j + 1 + 1, by omega, by go_num, HST, by have hb := HB2.out; exact (by repeat' (first | (with_reducible first | exact Below.refl _ _ | refine Below.drew ?_ | refine belowDrewN ?_ _ | refine belowIter ?_ ?_ _ _ | refine Below.setCell ?_ ?_ _ | refine Below.alloc ?_ ?_ _ | refine bT hb4 ?_ ?_ | refine bT hb3 ?_ ?_ | refine bT hb2 ?_ ?_ | refine bT hb1 ?_ ?_ | refine bT hbr ?_ ?_ | refine bT hb ?_ ?_) | (simp; done) | (simp; omega) | omega))⟩
            case measure => simp [intOf]; omega
end Go.Proofs.YtibffdaljmmdoaaGreatDoor
/- A region that draws its order within a round of a range over a function: the laws of plain regions serve there. -/
namespace Go.Proofs.YtibffdaljmmdoaaGreatDoor
open Go

theorem op_round {P : Program} {l n : Nat} {o : Oper} {a : Act} {w : World} {K : Act → World → Prop} {Q : Exit → Act → World → Prop} (hd : ∀ c, o.op ≠ .defer c) (h : o.wp P a w K Q) :
    o.wpIn (Fence.wide.inRound l) n P a w K Q := by
  unfold Oper.wp at h
  unfold Oper.wpIn
  refine ⟨fun f _ => trivial, ?_⟩
  rw [Fence.inRound_round, Oper.semAt_eq _ _ _ hd]
  generalize (execOp a.eval o).run P w = r at *
  cases r with
  | ok x w' =>
    cases x with
    | value v => exact h
    | skip => exact h
    | defer d => exact h
    | enter f args => exact ⟨fun h => by simp [Fence.wide, Fence.inRound] at h, CallsIn.inRound l (callsIn_wide.2 h)⟩
    | row row args =>
      refine ⟨fun h => by simp [Fence.wide, Fence.inRound] at h, ?_⟩
      intro c cs hroom
      obtain ⟨v, w', r, s⟩ := h c cs
      exact ⟨v, w', r, stepsIn_wide.2 s⟩
    | _ => exact h.elim
  | halt x w' => cases x <;> exact h
theorem wpOp_round {P : Program} {l n : Nat} {ops : Array Oper} {i : Nat} {a : Act} {w : World} {K : Act → World → Prop} {Q : Exit → Act → World → Prop} (hd : ∀ (j : Nat) (o : Oper), ops[j]? = some o → ∀ c, o.op ≠ .defer c) (hq : ¬ LetsOut Q)
    (h : wpOp P ops Q i K a w) : wpOpIn (Fence.wide.inRound l) n P ops Q i K a w := by
  unfold wpOp at h
  unfold wpOpIn
  cases ho : ops[i]? with
  | none => rw [ho] at h; exact h
  | some o =>
    rw [ho] at h
    dsimp only at h ⊢
    split
    · rename_i hw
      rw [if_pos hw] at h
      rcases h with h | ⟨_, h⟩
      · exact op_round (hd i o ho) h
      · exact absurd h hq
    · rename_i hw
      rw [if_neg hw] at h
      exact ⟨fun f _ => trivial, h⟩
theorem wpAny_round {P : Program} {l n : Nat} {ops : Array Oper} {md : Region.Mode} {Q : Exit → Act → World → Prop} (hd : ∀ (j : Nat) (o : Oper), ops[j]? = some o → ∀ c, o.op ≠ .defer c) (hq : ¬ LetsOut Q) :
    ∀ (fuel : Nat) (listed : Array Bool) (a : Act) (w : World), wpAny P md ops Q fuel listed a w → wpAnyIn (Fence.wide.inRound l) n P md ops Q fuel listed a w
  | 0, _, _, _, h => h
  | fuel + 1, _, _, _, h => ⟨h.1, fun i hi => wpOp_round hd hq (wpOp_mono (fun a' w' h' => wpAny_round hd hq fuel _ a' w' h') (h.2 i hi))⟩
def noDefer (ops : Array Oper) : Bool := ops.all fun o => match o.op with | .defer _ => false | _ => true
theorem noDefer_at {ops : Array Oper} (h : noDefer ops = true) (j : Nat) (o : Oper) (ho : ops[j]? = some o) : ∀ c, o.op ≠ .defer c := by
  intro c e
  have := Array.all_eq_true_iff_forall_mem.1 h o (Array.mem_of_getElem? ho)
  rw [e] at this
  cases this
/-- The beginning: from the world behind the draw, under S. -/
theorem region_round {P : Program} {l n id : Nat} {ops : Array Oper} {S : World → Prop} {Q : Exit → Act → World → Prop} {a : Act} {w : World} (hm : P.follows .mixedOrders = true) (hd : noDefer ops = true) (hq : ¬ LetsOut Q) (hS : S w.drew)
    (h : S w.drew → wpAnyH P .any ops Q S ops.size (Array.replicate ops.size false) a w.drew) : (Code.region id ops true).wpIn (Fence.wide.inRound l) n P Q a w :=
  wpIn_region_any hm (wpAny_round (noDefer_at hd) hq _ _ _ _ (wpAny_of_held _ _ _ _ (h hS)))
theorem ownPostG_in {α : Type} {B : Nat} {Kp : World → World → Prop} {I : List α → World → Prop} {Ix : Code → List α → World → Prop} {xs : List α} {W : World} : ¬ LetsOut (ownPostG B Kp I Ix xs W) := fun ⟨_, _, h⟩ => h
/-- Only the plain way out. -/
def Nrm (K : Act → World → Prop) : Exit → Act → World → Prop
  | .normal, a, w => K a w
  | _, _, _ => False
theorem region_round' {P : Program} {l n id : Nat} {ops : Array Oper} {S : World → Prop} {K : Act → World → Prop} {Q' : Exit → Act → World → Prop} {a : Act} {w : World} (hm : P.follows .mixedOrders = true) (hd : noDefer ops = true) (hS : S w.drew)
    (h : S w.drew → wpAnyH P .any ops (Nrm K) S ops.size (Array.replicate ops.size false) a w.drew) : (Code.region id ops true).wpIn (Fence.wide.inRound l) n P (Exit.then K Q') a w :=
  wpIn_mono (region_round hm hd (fun ⟨_, _, h⟩ => h) hS h) (by
    intro e a w hq
    cases e with
    | normal => exact hq
    | _ => exact hq.elim)
def NrmQ (Q : Exit → Act → World → Prop) : Exit → Act → World → Prop
  | .normal, a, w => Q .normal a w
  | _, _, _ => False
theorem region_roundQ {P : Program} {l n id : Nat} {ops : Array Oper} {S : World → Prop} {Q : Exit → Act → World → Prop} {a : Act} {w : World} (hm : P.follows .mixedOrders = true) (hd : noDefer ops = true) (hS : S w.drew)
    (h : S w.drew → wpAnyH P .any ops (NrmQ Q) S ops.size (Array.replicate ops.size false) a w.drew) : (Code.region id ops true).wpIn (Fence.wide.inRound l) n P Q a w :=
  wpIn_mono (region_round hm hd (fun ⟨_, _, h⟩ => h) hS h) (by
    intro e a w hq
    cases e with
    | normal => exact hq
    | _ => exact hq.elim)
end Go.Proofs.YtibffdaljmmdoaaGreatDoor
/- slices.Chunk at a mapping: the chunks of a hundred entries. -/
namespace Go.Proofs.YtibffdaljmmdoaaGreatDoor
open Go.RowKit Go.Shelf Fo
attribute [local go_sem] Oper.semAt_some

set_option maxHeartbeats 1000000 in
theorem chunk_in (F : Fence) (n : Nat) (hf : F.fn 33) (hro : F.round = none) (p : Option Addr) (m c : Nat) (w : World) :
    CallsIn F n Tryz.prog 33 #[.slice p m c, .int .i64 100] w fun e w' => e = .returned (.func (.func 56) #[] #[.pointer (some ⟨w.heap.size, 0, none⟩), .pointer (some ⟨w.heap.size + 1, 0, none⟩)]) ∧ w' = (w.alloc (.cells #[.slice p m c] 23)).alloc (.cells #[.int .i64 100] 3) := by
  refine callsIn_of_wp Tryz.func33 rfl hf ?_ hro
  simp only [Tryz.ntmps33, List.size_toArray, List.length_cons, List.length_nil, Nat.reduceAdd, Nat.reduceSub, Array.replicate_succ, Array.replicate_zero, List.push_toArray, List.append_toArray, List.nil_append, List.cons_append]
  gi_wp2
  go_ret
  exact ⟨rfl, rfl⟩
/-- What a round keeps: all below n₀, and the two boxes. -/
structure KeepC (n₀ B1 B2 : Nat) (W W' : World) : Prop where
  below : Below n₀ W W'
  one : W'.heap[B1]? = W.heap[B1]?
  two : W'.heap[B2]? = W.heap[B2]?
theorem KeepC.refl (n₀ B1 B2 : Nat) (W : World) : KeepC n₀ B1 B2 W W := ⟨Below.refl _ _, rfl, rfl⟩
theorem KeepC.trans {n₀ B1 B2 : Nat} {A B C : World} (h : KeepC n₀ B1 B2 A B) (k : KeepC n₀ B1 B2 B C) : KeepC n₀ B1 B2 A C := ⟨h.below.trans k.below, k.one.trans h.one, k.two.trans h.two⟩
theorem KeepC.drewN {n₀ B1 B2 : Nat} {A B : World} (h : KeepC n₀ B1 B2 A B) (k : Nat) : KeepC n₀ B1 B2 A (B.drewN k) := ⟨belowDrewN h.below k, h.one, h.two⟩
structure CAt (W : World) (B1 B2 : Nat) (p : Option Addr) (N c : Nat) : Prop where
  one : W.cell? ⟨B1, 0, none⟩ = some (.slice p N c)
  two : W.cell? ⟨B2, 0, none⟩ = some (.int .i64 100)
theorem CAt.keep {W W' : World} {n₀ B1 B2 N c : Nat} {p : Option Addr} (h : CAt W B1 B2 p N c) (hb : KeepC n₀ B1 B2 W W') : CAt W' B1 B2 p N c :=
  ⟨(World.cell?_of_block hb.one).trans h.one, (World.cell?_of_block hb.two).trans h.two⟩
/-- The chunk that begins at i, of a slice of N entries at off in block g. -/
def encK (g off N : Nat) (i : Nat) : Array Value := #[.slice (some ⟨g, off + i * 2, none⟩) (min 100 (N - i)) (min 100 (N - i))]
set_option maxRecDepth 100000 in
set_option maxHeartbeats 2000000 in
theorem chunk1_in (n : Nat) (hn : 1 ≤ n) (l B1 B2 n₀ g off N c : Nat) (p : Option Addr) (hN : N ≤ 1000000) (hc : N ≤ c) (hp : 0 < N → p = some ⟨g, off, none⟩) (J Jx : List Nat → World → Prop)
    (hY : ∀ pre x W, J pre W → pre.length < N → YieldAt Fence.wide (n - 1) Tryz.prog l (encK g off N x) W fun e W' =>
      (e = .returned (.bool true) ∧ J (pre ++ [x]) W' ∧ KeepC n₀ B1 B2 W W') ∨ (e = .returned (.bool false) ∧ Jx (pre ++ [x]) W'))
    (hJd : ∀ pre W k, J pre W → J pre (W.drewN k))
    (W : World) (hU : CAt W B1 B2 p N c) (h0 : J [] W) :
    CallsIn Fence.wide n Tryz.prog 56 #[.func (.yield l) #[] #[], .pointer (some ⟨B1, 0, none⟩), .pointer (some ⟨B2, 0, none⟩)] W fun e W' => (∃ v, e = .returned v) ∧
      ((∃ ys, ys = starts N ∧ J ys W') ∨ (∃ pre, pre <+: starts N ∧ Jx pre W')) := by
  have hro : Fence.wide.round = none := rfl
  refine callsIn_of_wp Tryz.func56 rfl trivial ?_ hro
  simp only [Tryz.ntmps56, List.size_toArray, List.length_cons, List.length_nil, Nat.reduceAdd, Nat.reduceSub, Array.replicate_succ, Array.replicate_zero, List.push_toArray, List.append_toArray, List.nil_append, List.cons_append]
  have HU := Lib.hid hU
  have HPP := Lib.hid hp
  clear hU hp
  gi_wp2
  gi_loopw [4] (fun i wr => ∃ (k : Nat) (pre : List Nat), k ≤ N + 100 ∧ i = .int .i64 k ∧ Hid (starts N = pre ++ startsAt k N) ∧ Hid (pre.length ≤ k) ∧ Hid (KeepC n₀ B1 B2 W wr) ∧ J pre wr) (fun i _ => N + 100 - (intOf i).toNat)
  case atStart => exact ⟨0, [], Nat.zero_le _, rfl, Lib.hid (by simp [starts, startsAt]), Lib.hid (Nat.zero_le _), Lib.hid (KeepC.refl _ _ _ _), h0⟩
  case round =>
    obtain ⟨k, pre, hk, rfl, HS, HP, HB, hJ⟩ := hrel
    have hUr := HU.out.keep HB.out
    obtain ⟨b1, b2⟩ := hUr
    by_cases hlt : k < N
    · obtain rfl := HPP.out (by omega)
      have hpl : pre.length < N := Nat.lt_of_le_of_lt HP.out hlt
      have HS2 := Lib.hid (show starts N = pre ++ k :: startsAt (k + 100) N by rw [HS.out, startsAt_step hlt])
      have hkc : k < c := by omega
      obtain ⟨e, he⟩ : ∃ e, min 100 (N - k) = e := ⟨_, rfl⟩
      have he1 : e ≤ 100 := by omega
      have he2 : e ≤ N - k := by omega
      have hem : min 100 (((N - k : Nat)) : Int) = (e : Int) := by omega
      have HY := Lib.hid (show ∀ W1, J pre W1 → YieldAt Fence.wide (n - 1) Tryz.prog l #[.slice (some ⟨g, off + k * 2, none⟩) e e] W1 _ from fun W1 hJ => yield_at (hY pre k W1 hJ hpl) (by unfold encK; rw [he]))
      have HP2 := Lib.hid (show pre.length ≤ k from HP.out)
      clear HS hY he HP
      gi_wp2
      refine wpIn_wide.2 ?_
      go_quiet (fail)
      have hJ2 := hJd pre wr nq hJ
      have c1 : (wr.drewN nq).cell? ⟨B1, 0, none⟩ = some (.slice (some ⟨g, off, none⟩) N c) := b1
      have c2 : (wr.drewN nq).cell? ⟨B2, 0, none⟩ = some (.int .i64 100) := b2
      have HB2 := Lib.hid (HB.out.drewN nq)
      obtain ⟨W1, hW1⟩ : ∃ W1, wr.drewN nq = W1 := ⟨_, rfl⟩
      rw [hW1] at hJ2 c1 c2 HB2 ⊢
      clear hJ b1 b2 HB hW1
      obtain ⟨fn, tmps, assign, body, hy, hR⟩ := HY.out _ hJ2
      have HR := Lib.hid hR
      have q1 : (k : Int) ≤ (k : Int) + e := by omega
      have q2 : (k : Int) + e ≤ N := by omega
      have n1 : ¬ (k + e = k) := by omega
      have n2 : ¬ (e = 0) := by omega
      clear hR hem
      gi_wp2
      refine HR.out.mono ?_
      rintro e W3 (⟨rfl, hJ3, hk3⟩ | ⟨rfl, hJx3⟩)
      · have d2 : W3.cell? ⟨B2, 0, none⟩ = some (.int .i64 100) := (World.cell?_of_block (a := ⟨B2, 0, none⟩) hk3.two).trans c2
        gi_wp2
        go_roundw
        case rel => exact ⟨k + 100, pre ++ [k], by omega, by go_num, Lib.hid (by rw [HS2.out, List.append_assoc]; rfl), Lib.hid (by have := HP2.out; simp; omega), Lib.hid (HB2.out.trans hk3), hJ3⟩
        case measure => simp [intOf]; omega
      · gi_wp2
        refine bodyPost_ret (results_none rfl _ _ _) rfl ?_
        exact ⟨⟨_, rfl⟩, .inr ⟨_, ⟨_, by rw [HS2.out, List.append_assoc]; rfl⟩, hJx3⟩⟩
    · have HE := Lib.hid (show starts N = pre by rw [HS.out, startsAt_end (by omega)]; simp)
      clear HS hY
      gi_wp2
      go_end0
      exact ⟨⟨_, rfl⟩, .inl ⟨_, HE.out.symm, hJ⟩⟩
theorem chunk_stops (n : Nat) (hn : 1 ≤ n) (B1 B2 n₀ g off N c : Nat) (p : Option Addr) (hN : N ≤ 1000000) (hc : N ≤ c) (hp : 0 < N → p = some ⟨g, off, none⟩) (w : World) (h1 : B1 < w.heap.size) (h2 : B2 < w.heap.size) (hU : CAt w B1 B2 p N c) :
    SeqStopsK Fence.wide n Tryz.prog 56 #[.pointer (some ⟨B1, 0, none⟩), .pointer (some ⟨B2, 0, none⟩)] (encK g off N) (KeepC n₀ B1 B2) (fun ys => ys = starts N) (fun pre => pre <+: starts N) N w := fun l J Jx W hW hJ _ hY h0 =>
  chunk1_in n hn l B1 B2 n₀ g off N c p hN hc hp J Jx hY (fun pre W k h => hJ pre W _ none h ⟨rfl, rfl, rfl, Nat.le_refl _, fun _ _ _ => rfl⟩ (fun _ e => by cases e)) W ⟨(World.cell?_of_block (a := ⟨B1, 0, none⟩) (hW.block B1 h1)).trans hU.one, (World.cell?_of_block (a := ⟨B2, 0, none⟩) (hW.block B2 h2)).trans hU.two⟩ h0
end Go.Proofs.YtibffdaljmmdoaaGreatDoor
/- The walk of Text of the mapping layer. -/
namespace Go.Proofs.YtibffdaljmmdoaaGreatDoor
open Go.RowKit Go.Shelf Fo
attribute [local go_sem] Oper.semAt_some

def WrR (r : Res L) (e : Ending) : Prop := match r with
  | .good x => e = .returned (.tuple #[.string ⟨x.toArray⟩, .int .i64 0])
  | .bad k => e = .returned (.tuple #[.string ⟨#[]⟩, .int .i64 k])
/-- A slice's spare room. -/
def MCap (v : Value) : Prop := ∀ p n c, v = .slice p n c → n ≤ c
theorem checkGo_small : ∀ (most : Int) (p : Option Int) (m : CM), checkGo most p m = 0 → ∀ x ∈ m, 0 ≤ x.1 ∧ x.1 ≤ most ∧ (unitsS x.2).length ≤ 512
  | _, _, [], _, x, hx => by cases hx
  | most, p, (c, s) :: m, h, x, hx => by
    rw [checkGo] at h
    split at h
    · cases h
    split at h
    · cases h
    split at h
    · cases h
    split at h
    · cases h
    split at h
    · cases h
    rename_i h1 h2 h3 h4 h5
    rcases List.mem_cons.1 hx with rfl | hx
    · refine ⟨by dsimp only; omega, by dsimp only; omega, by dsimp only; omega⟩
    · exact checkGo_small most (some c) m h x hx
set_option maxRecDepth 100000 in
set_option maxHeartbeats 2000000 in
theorem wtext_bad (v : Value) (m : CM) (wide : Bool) (w : World) (k : Int) (hk : checkC m wide = k) (hk0 : k ≠ 0) (hv : MArg w v m) (hm : m.length ≤ 1000000) (hx : ∀ p ∈ m, p.2.length ≤ 1000000) (hT : TabsW w) :
    Calls Tryz.prog 15 #[v, .bool wide] w fun e w' => e = .returned (.tuple #[.string ⟨#[]⟩, .int .i64 k]) ∧ Below w.heap.size w w' := by
  have HC := Lib.hid (fun W hv hT => check_in v m wide W hv hm hx hT)
  rw [hk] at HC
  have hk1 : (k != 0) = true := by simpa using hk0
  obtain ⟨N, hN⟩ : ∃ N, m.length = N := ⟨_, rfl⟩
  have HA := Lib.hid hv
  obtain ⟨p, c, rfl, _⟩ := hv
  rw [hN] at HA HC ⊢
  clear hk hk0 hN
  go_enter Tryz.func15, Tryz.ntmps15
  go_wp2_with fail
  refine (HC.out _ (HA.out.below (by repeat' (first | (with_reducible first | exact Below.refl _ _ | refine Below.drew ?_ | refine belowDrewN ?_ _ | refine belowIter ?_ ?_ _ _ | refine Below.setCell ?_ ?_ _ | refine Below.alloc ?_ ?_ _ | refine bT hb4 ?_ ?_ | refine bT hb3 ?_ ?_ | refine bT hb2 ?_ ?_ | refine bT hb1 ?_ ?_ | refine bT hbr ?_ ?_ | refine bT hb ?_ ?_) | (simp; done) | (simp; omega) | omega))) (hT.below (by repeat' (first | (with_reducible first | exact Below.refl _ _ | refine Below.drew ?_ | refine belowDrewN ?_ _ | refine belowIter ?_ ?_ _ _ | refine Below.setCell ?_ ?_ _ | refine Below.alloc ?_ ?_ _ | refine bT hb4 ?_ ?_ | refine bT hb3 ?_ ?_ | refine bT hb2 ?_ ?_ | refine bT hb1 ?_ ?_ | refine bT hbr ?_ ?_ | refine bT hb ?_ ?_) | (simp; done) | (simp; omega) | omega)))).mono ?_
  rintro e w1 ⟨rfl, hb1⟩
  go_wp2
  go_ret2
  exact ⟨rfl, (by repeat' (first | (with_reducible first | exact Below.refl _ _ | refine Below.drew ?_ | refine belowDrewN ?_ _ | refine belowIter ?_ ?_ _ _ | refine Below.setCell ?_ ?_ _ | refine Below.alloc ?_ ?_ _ | refine bT hb4 ?_ ?_ | refine bT hb3 ?_ ?_ | refine bT hb2 ?_ ?_ | refine bT hb1 ?_ ?_ | refine bT hbr ?_ ?_ | refine bT hb ?_ ?_) | (simp; done) | (simp; omega) | omega))⟩
theorem cownS_made (W : World) (B : Nat) (hB : B ≤ W.heap.size) (ss : List L) (n : Nat) (hn : ss.length = n) (hm : n ≤ maxLen) (vs : List Value) (hv : vs = ss.map strV) (H : Nat) (hH : W.heap.size = H) : cownS (W.alloc (.cells vs.toArray 9)) B (.slice (some ⟨H, 0, none⟩) n n) ss := by
  subst hv; subst hn; subst hH
  exact ⟨by simp, .inr ⟨W.heap.size, ss.length, _, rfl, hB, heap_alloc_new W _, Nat.le_refl _, hm, by simp, by rw [List.take_of_length_le (by simp)]⟩⟩
/-- Behind the first lines: the variable out. -/
def OutR (w1 : World) (wide : Bool) (g : Nat) (v : Value) (wc : World) : Prop := w1.heap.size ≤ g ∧ Boxed wc g 65 v ∧ cownS wc w1.heap.size v (headP wide) ∧ Below w1.heap.size w1 wc
theorem tleaf1 {w1 Z : World} {wide : Bool} (hB : Below w1.heap.size w1 Z) (vs : List Value) (hv : vs = (headP wide).map strV) :
    OutR w1 wide (Z.heap.size + 1) (.slice (some ⟨Z.heap.size, 0, none⟩) 3 3) ((Z.alloc (.cells vs.toArray 9)).alloc (.cells #[.slice (some ⟨Z.heap.size, 0, none⟩) 3 3] 65)) := by
  have hz := hB.size
  refine ⟨by omega, ?_, cownS_below (cownS_made Z _ hz (headP wide) 3 rfl (by unfold maxLen; omega) vs hv _ rfl) ((Below.refl _ _).alloc (Nat.le_refl _) _), (hB.alloc hz _).alloc (by simp; omega) _⟩
  have := Boxed.new (Z.alloc (.cells vs.toArray 9)) 65 (.slice (some ⟨Z.heap.size, 0, none⟩) 3 3)
  simpa using this
theorem tleaf2 {w1 Z : World} {wide : Bool} (hB : Below w1.heap.size w1 Z) (vs : List Value) (hv : vs = (headP wide).map strV) :
    OutR w1 wide Z.heap.size (.slice (some ⟨Z.heap.size + 1, 0, none⟩) 3 3) ((Z.alloc (.cells #[.slice (some ⟨Z.heap.size + 1, 0, none⟩) 3 3] 65)).alloc (.cells vs.toArray 9)) := by
  have hz := hB.size
  exact ⟨hz, (Boxed.new Z _ _).alloc _, cownS_made _ _ (by simp; omega) (headP wide) 3 rfl (by unfold maxLen; omega) vs hv _ (by simp), (hB.alloc hz _).alloc (by simp; omega) _⟩
theorem tleaf3 {w1 Z : World} {wide : Bool} {u : Value} {H : Nat} (hH : w1.heap.size ≤ H) (hbx : Boxed Z H 65 u) (hB : Below w1.heap.size w1 Z) (vs : List Value) (hv : vs = (headP wide).map strV) :
    OutR w1 wide H (.slice (some ⟨Z.heap.size, 0, none⟩) 3 3) ((Z.setCell ⟨H, 0, none⟩ (.slice (some ⟨Z.heap.size, 0, none⟩) 3 3)).alloc (.cells vs.toArray 9)) := by
  have hz := hB.size
  have hs : (Z.setCell ⟨H, 0, none⟩ (.slice (some ⟨Z.heap.size, 0, none⟩) 3 3)).heap.size = Z.heap.size := by simp
  exact ⟨hH, (hbx.set _).alloc _, cownS_made _ _ (by rw [hs]; exact hz) (headP wide) 3 rfl (by unfold maxLen; omega) vs hv _ hs, (hB.setCell hH _).alloc (by rw [hs]; exact hz) _⟩
theorem bxb {W W' : World} {B : Nat} {t : TypeId} {v : Value} (h : Boxed W B t v) (hb : Below W.heap.size W W') : Boxed W' B t v := (hb.block B h.lt).trans h
end Go.Proofs.YtibffdaljmmdoaaGreatDoor
/- What the rounds of Text keep; a string appended to the variable out. -/
namespace Go.Proofs.YtibffdaljmmdoaaGreatDoor
open Go.RowKit Go.Shelf Fo
attribute [local go_sem] Oper.semAt_some

structure TK (z B1 B2 : Nat) (W W' : World) : Prop where
  others : KeepsOthers W W'
  keep : KeepC z B1 B2 W W'
theorem TK.refl (z B1 B2 : Nat) (W : World) : TK z B1 B2 W W := ⟨KeepsOthers.refl _, KeepC.refl _ _ _ _⟩
theorem TK.trans {z B1 B2 : Nat} {A B C : World} (h : TK z B1 B2 A B) (k : TK z B1 B2 B C) : TK z B1 B2 A C := ⟨h.others.trans k.others, h.keep.trans k.keep⟩
theorem TK.of_below {z B1 B2 : Nat} {W W' : World} (hb : Below W.heap.size W W') (hz : z ≤ W.heap.size) (h1 : B1 < W.heap.size) (h2 : B2 < W.heap.size) : TK z B1 B2 W W' :=
  ⟨⟨hb.size, fun k _ hk _ => (hb.block k (Array.getElem?_eq_some_iff.1 hk).1).trans hk⟩, ⟨hb.mono hz, hb.block B1 h1, hb.block B2 h2⟩⟩
/-- The state of a round: the variable out holds the pieces ss; what it must not turn. -/
structure TB (W0 : World) (z g B0 B1 B2 : Nat) (wide : Bool) (p : Option Addr) (N c : Nat) (W : World) (v : Value) (ss : List L) : Prop where
  box : Boxed W g 65 v
  own : cownS W z v ss
  b0 : Boxed W B0 4 (.bool wide)
  b1 : Boxed W B1 23 (.slice p N c)
  b2 : Boxed W B2 3 (.int .i64 100)
  tk : TK z B1 B2 W0 W
variable {W0 W W' : World} {z g B0 B1 B2 N c : Nat} {wide : Bool} {p : Option Addr} {v : Value} {ss : List L}
theorem TB.size (h : TB W0 z g B0 B1 B2 wide p N c W v ss) : W0.heap.size ≤ W.heap.size := h.tk.keep.below.size
theorem TB.below (h : TB W0 z g B0 B1 B2 wide p N c W v ss) (hz : z ≤ W0.heap.size) (hb : Below W.heap.size W W') : TB W0 z g B0 B1 B2 wide p N c W' v ss :=
  ⟨bxb h.box hb, cownS_below h.own hb, bxb h.b0 hb, bxb h.b1 hb, bxb h.b2 hb, h.tk.trans (TK.of_below hb (Nat.le_trans hz h.size) h.b1.lt h.b2.lt)⟩
theorem TB.cells (h : TB W0 z g B0 B1 B2 wide p N c W v ss) : W.cell? ⟨g, 0, none⟩ = some v ∧ W.frozen? ⟨g, 0, none⟩ = false ∧ W.cell? ⟨B0, 0, none⟩ = some (.bool wide) := ⟨h.box.cell, h.box.frozen, h.b0.cell⟩
theorem TB.pushed (h : TB W0 z g B0 B1 B2 wide p N c W v ss) (hz : z ≤ W0.heap.size) (hzg : z ≤ g) (h0 : B0 ≠ g) (h1 : B1 ≠ g) (h2 : B2 ≠ g) {tmp : Obj} {w1 : World} {v' : Value} {ss' : List L} (hown' : cownS w1 z v' ss') (hgrow : (W.alloc tmp).grownBy w1 v.ownBlock) :
    Boxed w1 g 65 v ∧ TB W0 z g B0 B1 B2 wide p N c (w1.setCell ⟨g, 0, none⟩ v') v' ss' := by
  obtain ⟨hv1, hv2, hr2, hk2, hb2⟩ := h.box.appended (by decide) h.own (Nat.le_trans hz h.size) hzg hown' hgrow
  have c0 := ((h.b0.alloc tmp).kept hgrow (h.b0.not_row (by decide) h.own)).other h0 v'
  have c1 := ((h.b1.alloc tmp).kept hgrow (h.b1.not_row (by decide) h.own)).other h1 v'
  have c2 := ((h.b2.alloc tmp).kept hgrow (h.b2.not_row (by decide) h.own)).other h2 v'
  exact ⟨hv1, hv2, hr2, c0, c1, c2, h.tk.trans ⟨hk2, ⟨hb2, c1.trans h.b1.symm, c2.trans h.b2.symm⟩⟩⟩
/-- One string is appended, at the operation. -/
theorem push_wp {o : Oper} {a : Act} {K : Act → World → Prop} {Q : Exit → Act → World → Prop} {w : World} (s x : Operand)
    (ho : o.op = .call { callee := .builtin .append, args := #[s, x], argTypes := #[65, 65] })
    (z : Nat) (v : Value) (ss : List L) (y : L) (hown : cownS w z v ss) (hs : a.eval s = v)
    (hx : a.eval x = .slice (some ⟨w.heap.size, 0, none⟩) 1 1) (hlen : ss.length ≤ 1000000000) (hz : z ≤ w.heap.size)
    (h : ∀ p c w', cownS w' z (.slice p (ss.length + 1) c) (ss ++ [y]) → (w.alloc (.cells #[.string ⟨y.toArray⟩] 9)).grownBy w' v.ownBlock → K (a.put o.dst (.slice p (ss.length + 1) c)) w') :
    o.wp Tryz.prog a (w.alloc (.cells #[.string ⟨y.toArray⟩] 9)) K Q := by
  obtain ⟨i0, hi, hz0, hz1, hz2⟩ := info_parts Tryz.cinfoStr
  refine wp_append_own _ s x 65 ho z 9 i0 (.string ⟨#[]⟩) 1 16 Tryz.underlying65 hi hz0 hz1 hz2 rfl (by decide) v ss.length _ hs (World.ownsRow.alloc hown _) ⟨w.heap.size, 0, none⟩ 1 1 [.string ⟨y.toArray⟩] hx rfl ?_ ?_ ?_ ?_ ?_ ?_
  · exact World.news_of_block (cs := #[.string ⟨y.toArray⟩]) (t := 9) (fr := (0, 0)) (heap_alloc_new w _)
  · intro u hu; simp at hu; subst hu; rfl
  · unfold maxLen; omega
  · omega
  · simp; omega
  · intro v' w' hown' hg _
    obtain ⟨p, c, rfl⟩ := cown_slice hown'
    refine h p c w' ?_ hg
    unfold cownS
    rw [List.map_append, List.length_append]
    exact hown'
/-- The same at the list of a plain region, inside a fence. -/
theorem push_list {F : Fence} {n : Nat} {ops : Array Oper} {rest : List Oper} {o : Oper} {a : Act} {Q : Exit → Act → World → Prop} {w : World} (hgd : o.guard = none) (s x : Operand)
    (ho : o.op = .call { callee := .builtin .append, args := #[s, x], argTypes := #[65, 65] })
    (z : Nat) (v : Value) (ss : List L) (y : L) (hown : cownS w z v ss) (hs : a.eval s = v)
    (hx : a.eval x = .slice (some ⟨w.heap.size, 0, none⟩) 1 1) (hlen : ss.length ≤ 1000000000) (hz : z ≤ w.heap.size)
    (h : ∀ p c w', cownS w' z (.slice p (ss.length + 1) c) (ss ++ [y]) → (w.alloc (.cells #[.string ⟨y.toArray⟩] 9)).grownBy w' v.ownBlock → wpListIn F n Tryz.prog ops Q rest (a.put o.dst (.slice p (ss.length + 1) c)) w') :
    wpListIn F n Tryz.prog ops Q (o :: rest) a (w.alloc (.cells #[.string ⟨y.toArray⟩] 9)) := by
  obtain ⟨i0, hi, hz0, hz1, hz2⟩ := info_parts Tryz.cinfoStr
  refine wpListIn_append_own _ hgd s x 65 ho z 9 i0 (.string ⟨#[]⟩) 1 16 Tryz.underlying65 hi hz0 hz1 hz2 rfl (by decide) v ss.length _ hs (World.ownsRow.alloc hown _) ⟨w.heap.size, 0, none⟩ 1 1 [.string ⟨y.toArray⟩] hx rfl ?_ ?_ ?_ ?_ ?_ ?_
  · exact World.news_of_block (cs := #[.string ⟨y.toArray⟩]) (t := 9) (fr := (0, 0)) (heap_alloc_new w _)
  · intro u hu; simp at hu; subst hu; rfl
  · unfold maxLen; omega
  · omega
  · simp; omega
  · intro v' w' hown' hg _
    obtain ⟨p, c, rfl⟩ := cown_slice hown'
    refine h p c w' ?_ hg
    unfold cownS
    rw [List.map_append, List.length_append]
    exact hown'
theorem TB.pushed_block (h : TB W0 z g B0 B1 B2 wide p N c W v ss) {tmp : Obj} {w1 : World} {v' : Value} {k : Nat} {o : Obj} (hgrow : (W.alloc tmp).grownBy w1 v.ownBlock) (hk : W.heap[k]? = some o) (hne : some k ≠ v.ownBlock) (hg : k ≠ g) :
    w1.heap[k]? = some o ∧ (w1.setCell ⟨g, 0, none⟩ v').heap[k]? = some o := by
  have hlt := (Array.getElem?_eq_some_iff.1 hk).1
  have h1 : w1.heap[k]? = some o := (hgrow.block k (by simp; omega) hne).trans ((Below.heap_alloc _ _ _ hlt).trans hk)
  exact ⟨h1, ((grownBy_setCell' w1 g v').block k (Array.getElem?_eq_some_iff.1 h1).1 (by simpa using hg)).trans h1⟩
theorem own_ne {w : World} {B n k : Nat} {e : TypeId} {v : Value} {m : Nat} {xs : List Value} (h : w.ownsRow B e n v m xs) (hk : w.heap.size ≤ k) : some k ≠ v.ownBlock := by
  intro e'
  have := (h.lt k e'.symm).2
  omega
theorem sx_of {X : World} {xb : Nat} {d : Int} {t : ByteArray} (h1 : X.heap[xb]? = some (.cells #[.int .i64 d, .string t] 44)) (h2 : Boxed X B0 4 (.bool wide)) :
    X.cell? ⟨xb, 0, none⟩ = some (.int .i64 d) ∧ X.cell? ⟨xb, 1, none⟩ = some (.string t) ∧ X.cell? ⟨B0, 0, none⟩ = some (.bool wide) :=
  ⟨by simp [World.cell?, h1], by simp [World.cell?, h1], h2.cell⟩
/-- Two strings at the list of a plain region. -/
theorem push2_list {F : Fence} {n : Nat} {ops : Array Oper} {rest : List Oper} {o : Oper} {a : Act} {Q : Exit → Act → World → Prop} {w : World} (hgd : o.guard = none) (s x : Operand)
    (ho : o.op = .call { callee := .builtin .append, args := #[s, x], argTypes := #[65, 65] })
    (z : Nat) (v : Value) (ss : List L) (y y2 : L) (hown : cownS w z v ss) (hs : a.eval s = v)
    (hx : a.eval x = .slice (some ⟨w.heap.size, 0, none⟩) 2 2) (hlen : ss.length ≤ 1000000000) (hz : z ≤ w.heap.size)
    (h : ∀ g c w', cownS w' z (.slice (some ⟨g, 0, none⟩) (ss.length + 2) c) (ss ++ [y, y2]) → (w.alloc (.cells #[.string ⟨y.toArray⟩, .string ⟨y2.toArray⟩] 9)).grownBy w' v.ownBlock → wpListIn F n Tryz.prog ops Q rest (a.put o.dst (.slice (some ⟨g, 0, none⟩) (ss.length + 2) c)) w') :
    wpListIn F n Tryz.prog ops Q (o :: rest) a (w.alloc (.cells #[.string ⟨y.toArray⟩, .string ⟨y2.toArray⟩] 9)) := by
  obtain ⟨i0, hi, hz0, hz1, hz2⟩ := info_parts Tryz.cinfoStr
  refine wpListIn_append_own _ hgd s x 65 ho z 9 i0 (.string ⟨#[]⟩) 1 16 Tryz.underlying65 hi hz0 hz1 hz2 rfl (by decide) v ss.length _ hs (World.ownsRow.alloc hown _) ⟨w.heap.size, 0, none⟩ 2 2 [.string ⟨y.toArray⟩, .string ⟨y2.toArray⟩] hx rfl ?_ ?_ ?_ ?_ ?_ ?_
  · exact World.news_of_block (cs := #[.string ⟨y.toArray⟩, .string ⟨y2.toArray⟩]) (t := 9) (fr := (0, 0)) (heap_alloc_new w _)
  · intro u hu; simp at hu; rcases hu with rfl | rfl <;> rfl
  · unfold maxLen; omega
  · omega
  · simp; omega
  · intro v' w' hown' hg _
    obtain ⟨g, c, rfl⟩ := ownsRow_succ hown'
    refine h g c w' ?_ hg
    unfold cownS
    rw [List.map_append, List.length_append]
    exact hown'
theorem own_keepD {w w' : World} {z D : Nat} {v : Value} {ss : List L} {tmp : Obj} {x : Option (List Deferred)} (hown : cownS w z v ss) (hD : w.heap[D]? = some (.deferred x)) (hg : (w.alloc tmp).grownBy w' v.ownBlock) : w'.heap[D]? = some (.deferred x) := by
  have hlt := (Array.getElem?_eq_some_iff.1 hD).1
  refine (hg.block D (by simp; omega) ?_).trans ((Below.heap_alloc _ _ _ hlt).trans hD)
  rcases hown.2 with ⟨rfl, _⟩ | ⟨g, cap, cur, rfl, _, h, _⟩
  · simp [Value.ownBlock]
  · intro e
    obtain rfl : D = g := by simpa [Value.ownBlock] using e
    rw [h] at hD; cases hD
theorem own_belowB {w w' : World} {z : Nat} {v : Value} {ss : List L} {tmp : Obj} (hown : cownS w z v ss) (hz : z ≤ w.heap.size) (hg : (w.alloc tmp).grownBy w' v.ownBlock) : Below z w w' :=
  ((Below.refl z w).alloc hz tmp).trans ((Below.refl z _).grown hg (by simp; omega) (own_base hown))
theorem join_rows {W : World} {z g n c : Nat} {ss : List L} {r : L} (hown : cownS W z (.slice (some ⟨g, 0, none⟩) n c) ss) (hn : ss.length = n) (hr : Lib.join ss [10] = r) (hl : r.length ≤ 140737488355328) (hs : n ≤ 1000000) :
    Calls Tryz.prog 35 #[.slice (some ⟨g, 0, none⟩) n c, .string ⟨#[10]⟩] W fun e w' => e = .returned (.string ⟨r.toArray⟩) ∧ Below W.heap.size W w' := by
  subst hn
  have h0 := hown
  rcases hown.2 with ⟨h1, _⟩ | ⟨g', cap, cur, h1, h2, h3, h4, h5, h6, h7⟩
  · cases h1
  · simp only [Value.slice.injEq, Option.some.injEq, Addr.mk.injEq] at h1
    obtain ⟨⟨rfl, _⟩, _, rfl⟩ := h1
    have e1 : (ss.map fun l : L => (⟨l.toArray⟩ : ByteArray)).length = ss.length := by simp
    have e2 : (ss.map fun l : L => (⟨l.toArray⟩ : ByteArray)).map (fun b => b.data.toList) = ss := by simp [Function.comp_def]
    have h := Tryz.strings_Join g 0 c (ss.map fun l : L => (⟨l.toArray⟩ : ByteArray)) ⟨#[10]⟩ W (by
      intro j x hj
      have hj2 : j < ss.length := by have := (List.getElem?_eq_some_iff.1 hj).1; simpa using this
      have := World.ownsRow.cellAt h0 j (by simpa using hj2)
      rw [Nat.zero_add, this]
      simp [hj2] at hj ⊢
      rw [← hj]; rfl) (Array.getElem?_eq_some_iff.1 h3).1 (by omega) (by omega) (by rw [e2]; show (Lib.join ss [10]).length ≤ _; rw [hr]; exact hl)
    rw [e1, e2] at h
    have e3 : Lib.join ss (⟨#[10]⟩ : ByteArray).data.toList = r := hr
    rw [e3] at h
    exact h
end Go.Proofs.YtibffdaljmmdoaaGreatDoor
