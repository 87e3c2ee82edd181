/- The walks of units and UTF-8; rows of a mapping. -/
import Derived.Test.YtibffdaljmmdoaaGreatDoorGLib
import Derived.Test.YtibffdaljmmdoaaGreatDoorGCm
import Derived.Deep.AppendLies
import Derived.OwnWalk
import Derived.IntWalk
import Derived.Laws.BitsLemmas
import Derived.RangeFuncNested
import Derived.RangeFuncBound
import Derived.RangeFuncCalls
import Derived.RangeFuncLeaves
import Derived.RangeFuncBox
import Derived.Shelf.Abstract
import Derived.Shelf.RegionOpen
import Derived.OwnWalkIn
import Derived.TacticsInMore
import Derived.LoopNIn
import Derived.LoopIn
import Derived.Maps.AppendAt
import Derived.Laws.RangeAny
import Derived.Laws.Cover4
set_option linter.all false
/- The walks of the two Hex, of units and of digits: each returns what the plain text says. -/
namespace Go.Proofs.YtibffdaljmmdoaaGreatDoor
open Go.RowKit Fo

theorem Tryz.infoU16 : (Tryz.prog.info? 40).map (fun i => (i.zero, i.size, i.bytes)) = some (some (.int .u16 0), 1, 2) := by kernel_rfl
theorem Tryz.infoI32 : (Tryz.prog.info? 21).map (fun i => (i.zero, i.size, i.bytes)) = some (some (.int .i32 0), 1, 4) := by kernel_rfl
/-- The slice v is the call's own and holds the units l. -/
def ownU (w : World) (B : Nat) (v : Value) (l : List Nat) : Prop := w.ownsRow B 40 1 v l.length (l.map fun c : Nat => .int .u16 (c : Int))
theorem ownU_nil (w : World) (B : Nat) : ownU w B (.slice none 0 0) [] := ⟨by simp, .inl ⟨rfl, rfl⟩⟩
theorem ownU_below {w w' : World} {B : Nat} {v : Value} {l : List Nat} (h : ownU w B v l) (hb : Below w.heap.size w w') : ownU w' B v l :=
  World.ownsRow.kept h (row := none) ⟨hb.os, hb.tape, hb.output, hb.size, fun k hk _ => hb.block k hk⟩ (Classical.em _)
theorem ownU_slice {w : World} {B : Nat} {v : Value} {l : List Nat} (h : ownU w B v l) : ∃ p c, v = .slice p l.length c := by
  rcases h.2 with ⟨h1, h2⟩ | ⟨g, cap, cur, h1, _⟩
  · exact ⟨none, 0, by rw [h1, h2]⟩
  · exact ⟨_, _, h1⟩
/-- The k-th unit's cell. -/
theorem ownU_cell {w : World} {B : Nat} {p : Option Addr} {n c : Nat} {l : List Nat} (h : ownU w B (.slice p n c) l) (k : Nat) (hk : k < l.length) :
    ∃ g, p = some ⟨g, 0, none⟩ ∧ B ≤ g ∧ g < w.heap.size ∧ w.cell? ⟨g, k, none⟩ = some (.int .u16 (l[k] : Nat)) := by
  have h0 := h
  rcases h.2 with ⟨h1, h2⟩ | ⟨g, cap, cur, h1, h2, h3, h4, h5, h6, h7⟩
  · cases h1; omega
  · cases h1
    refine ⟨g, rfl, h2, (Array.getElem?_eq_some_iff.1 h3).1, ?_⟩
    have := World.ownsRow.cellAt h0 k (by simpa using hk)
    simpa [hk] using this

theorem wraps_u16 (n : Int) (h₀ : 0 ≤ n) (h₁ : n < 2 ^ 16) : IntKind.u16.wrap n = n := by
  have : IntKind.u16.wrap n = n % 65536 := by simp [IntKind.wrap, IntKind.bits, IntKind.signed]
  rw [this]; omega
theorem u16_or8 {x y : Int} (hx₀ : 0 ≤ x) (hx : x % 256 = 0) (hx₁ : x < 65536) (h₀ : 0 ≤ y) (h₁ : y < 256) : bits .or .u16 x y = x + y :=
  bits_join .u16 16 (by decide) wraps_u16 8 x y hx₀ hx hx₁ h₀ h₁ (by omega)
theorem unitsN_len : ∀ (l : L), 2 * (unitsN l).length ≤ l.length
  | [] => by simp [unitsN]
  | [_] => by simp [unitsN]
  | a :: b :: l => by have := unitsN_len l; simp [unitsN]; omega
theorem unitsN_most : ∀ (l : L) (k : Nat), k % 2 = 0 → l.length ≤ k + 1 → unitsN (l.take k) = unitsN l
  | [], k, _, _ => by simp
  | [a], 0, _, _ => rfl
  | [a], k + 1, h, _ => by simp
  | a :: b :: l, 0, _, h => by simp at h
  | a :: b :: l, 1, h, _ => by omega
  | a :: b :: l, k + 2, h, hl => by simp only [List.take_succ_cons, unitsN, unitsN_most l k (by omega) (by simp at hl; omega)]
theorem unitsN_snoc : ∀ (l : L) (a b : UInt8), l.length % 2 = 0 → unitsN (l ++ [a, b]) = unitsN l ++ [256 * a.toNat + b.toNat]
  | [], _, _, _ => rfl
  | [_], _, _, h => by simp at h
  | x :: y :: l, a, b, h => by
    simp only [List.cons_append, unitsN, unitsN_snoc l a b (by simp at h; omega)]
theorem take_two (s : ByteArray) (k : Nat) (h : k + 1 < s.size) : s.data.toList.take (k + 2) = s.data.toList.take k ++ [s[k], s[k + 1]] := by
  rw [show k + 2 = (k + 1) + 1 from rfl, List.take_succ_eq_append_getElem (by simpa using h), List.take_succ_eq_append_getElem (by have : s.data.size = s.size := rfl; simp; omega)]
  simp; exact ⟨rfl, rfl⟩
set_option maxRecDepth 100000 in
set_option maxHeartbeats 1000000 in
theorem units_in (s : ByteArray) (hs : s.size ≤ 140737488355000) (w : World) :
    Calls Tryz.prog 38 #[.string s] w fun e w' => ∃ v, e = .returned v ∧ ownU w' w.heap.size v (unitsN s.data.toList) ∧ Below w.heap.size w w' := by
  go_enter Tryz.func38, Tryz.ntmps38
  go_wp2
  go_loopw [3, 4] (fun v i wr => ∃ k : Nat, k ≤ s.size ∧ i = .int .i64 k ∧ Hid (k % 2 = 0) ∧ Below w.heap.size w wr ∧ ownU wr w.heap.size v (unitsN (s.data.toList.take k))) (fun _ i _ => s.size - (intOf i).toNat)
  case atStart => exact ⟨0, by omega, rfl, Lib.hid rfl, Below.refl _ _, ownU_nil _ _⟩
  case round =>
    obtain ⟨k, hk, rfl, HE, hb, hown⟩ := hrel
    by_cases hlt : k + 1 < s.size
    · have hBr := hb.size
      have hk0 : k < s.size := by omega
      have hlen : (unitsN (s.data.toList.take k)).length ≤ 70368744177500 := by
        have := unitsN_len (s.data.toList.take k)
        have h2 : s.data.size = s.size := rfl
        simp at this; omega
      obtain ⟨us, hus⟩ : ∃ us, unitsN (s.data.toList.take k) = us := ⟨_, rfl⟩
      have HT := Lib.hid (take_two s k hlt)
      have HU := Lib.hid hus
      rw [hus] at hown hlen
      clear hus
      obtain ⟨p, c, rfl⟩ := ownU_slice hown
      obtain ⟨a, ha⟩ : ∃ a, s[k]'(by omega) = a := ⟨_, rfl⟩
      obtain ⟨b, hb'⟩ : ∃ b, s[k + 1]'(by omega) = b := ⟨_, rfl⟩
      have hb1 := UInt8.toNat_lt a
      have hb2 := UInt8.toNat_lt b
      obtain ⟨i0, hi0, y0, y1, y2⟩ := info_parts Tryz.infoU16
      have q1 : IntKind.i64.wrap ((k : Int) + 1) = (k : Int) + 1 := IntWalk.i64_in _ (by omega)
      have q2 : ((k : Int) + 1).toNat = k + 1 := by omega
      have q3 : (0 : Int) ≤ (k : Int) + 1 := by omega
      have e1 : IntKind.u16.wrap (a.toNat : Int) = a.toNat := wraps_u16 _ (by omega) (by omega)
      have e2 : IntKind.u16.wrap ((a.toNat : Int) * 256) = (a.toNat : Int) * 256 := wraps_u16 _ (by omega) (by omega)
      have e3 : IntKind.u16.wrap (b.toNat : Int) = b.toNat := wraps_u16 _ (by omega) (by omega)
      obtain ⟨u, hu⟩ : ∃ u, 256 * a.toNat + b.toNat = u := ⟨_, rfl⟩
      have e4 : bits BinOp.or IntKind.u16 ((a.toNat : Int) * 256) b.toNat = (u : Int) := by rw [u16_or8 (by omega) (by omega) (by omega) (by omega) (by omega)]; omega
      have HN := Lib.hid (show unitsN (s.data.toList.take (k + 2)) = us ++ [u] by
        rw [HT.out, unitsN_snoc _ _ _ (by have := HE.out; have h2 : s.data.size = s.size := rfl; simp; omega), HU.out, ha, hb', hu])
      clear hu HU HT
      have hown2 : wr.drew.ownsRow w.heap.size 40 1 (.slice p us.length c) us.length (us.map fun c : Nat => .int .u16 (c : Int)) := hown
      have hm1 : us.length + 1 ≤ maxLen := by unfold maxLen; omega
      have hm2 : (us.length + 1) * 2 ≤ 140737488355328 := by omega
      go_wp2_with fail
      go_region_law (refine step_append_lies _ (by rfl) _ _ _ (by rfl) w.heap.size 40 i0 (.int .u16 0) 1 2 Tryz.underlying72 hi0 y0 y1 y2 rfl (by omega) (.slice p us.length c) us.length (us.map fun c : Nat => .int .u16 (c : Int)) (by rfl) (hown2.alloc _) ⟨wr.heap.size, 0, none⟩ 1 1 [.int .u16 (u : Int)] (by rfl) (by rfl) (World.news_of_block (cs := #[.int .u16 (u : Int)]) (t := 40) (fr := (0, 0)) (heap_alloc_new wr.drew _)) (by intro u hu; simp at hu; subst hu; rfl) (by omega) hm1 hm2 (by simp; omega) (wr.heap.size + 1) (by simp) ?_; intro g2 cap w5 hown5 hgrow hat hlt5)
      all_goals
        have hX5 : ownU w5 w.heap.size (.slice (some ⟨g2, 0, none⟩) (us.length + 1) cap) (us ++ [u]) := by
          unfold ownU; simpa using hown5
        have hb5 : Below w.heap.size w w5 := ((hb.drew).alloc hBr _).grown hgrow (by simp; omega) (own_base hown)
        clear hgrow hat
        go_wp2
        go_roundw
      all_goals first
        | (case rel => exact ⟨k + 2, by omega, by go_num, Lib.hid (by have := HE.out; omega), hb5, by rw [HN.out]; exact hX5⟩)
        | (case measure => simp [intOf]; omega)
    · have HF := Lib.hid (show unitsN (s.data.toList.take k) = unitsN s.data.toList from unitsN_most s.data.toList k HE.out (by have h2 : s.data.size = s.size := rfl; simp; omega))
      rw [HF.out] at hown
      go_wp2
      go_ret
      exact ⟨_, rfl, hown, hb⟩

abbrev chexLit : ByteArray := ⟨#[48, 49, 50, 51, 52, 53, 54, 55, 56, 57, 65, 66, 67, 68, 69, 70]⟩
theorem chexLit_at (n : Nat) (h : n < 16) : chexLit[n]'(by show n < 16; omega) = chexD n := by
  have h2 : n = 0 ∨ n = 1 ∨ n = 2 ∨ n = 3 ∨ n = 4 ∨ n = 5 ∨ n = 6 ∨ n = 7 ∨ n = 8 ∨ n = 9 ∨ n = 10 ∨ n = 11 ∨ n = 12 ∨ n = 13 ∨ n = 14 ∨ n = 15 := by omega
  rcases h2 with rfl | rfl | rfl | rfl | rfl | rfl | rfl | rfl | rfl | rfl | rfl | rfl | rfl | rfl | rfl | rfl <;> rfl
theorem hexL_snoc (l : L) (c : UInt8) : hexL (l ++ [c]) = hexL l ++ [chexD (c.toNat / 16), chexD (c.toNat % 16)] := by
  simp [hexL]
theorem hexL_len' (x : L) : (hexL x).length = 2 * x.length := by
  induction x with
  | nil => rfl
  | cons c x ih =>
    have e : hexL (c :: x) = chexD (c.toNat / 16) :: chexD (c.toNat % 16) :: hexL x := rfl
    rw [e]; simp [ih]; omega
theorem take_one (s : ByteArray) (k : Nat) (h : k < s.size) : s.data.toList.take (k + 1) = s.data.toList.take k ++ [s[k]] := by
  rw [List.take_succ_eq_append_getElem (by simpa using h)]; rfl
set_option maxRecDepth 100000 in
set_option maxHeartbeats 1000000 in
theorem chex_in (s : ByteArray) (hs : s.size ≤ 70000000000000) (w : World) :
    Calls Tryz.prog 55 #[.string s] w fun e w' => e = .returned (.string ⟨(hexL s.data.toList).toArray⟩) ∧ Below w.heap.size w w' := by
  have q0 : IntKind.i64.wrap (2 * (s.size : Int)) = 2 * (s.size : Int) := IntWalk.i64_in _ (by omega)
  obtain ⟨i0, hi0, y0, y1, y2⟩ := info_parts Tryz.infoU8
  go_enter Tryz.func55, Tryz.ntmps55
  go_wp2_with (at_make; refine wpList_make_own _ rfl _ _ 41 rfl w.heap.size 5 i0 (.int .u8 0) 1 Tryz.underlying41 hi0 y0 y1 .i64 .i64 (2 * (s.size : Int)) (2 * s.size) rfl rfl (by omega) (by rw [y2]; omega) (by unfold maxLen; omega) (by simp) ?_; intro w1 hown1 hgrow1)
  have hb1 : Below w.heap.size w w1 := (Below.refl _ _).grown hgrow1 (Nat.le_refl _) (fun k hk => by cases hk)
  clear hgrow1 i0 hi0 y0 y1 y2 q0
  go_loopw [3, 11] (fun v i wr => ∃ k : Nat, k ≤ s.size ∧ i = .int .i64 k ∧ Below w.heap.size w wr ∧ ownB wr w.heap.size v (hexL (s.data.toList.take k))) (fun _ i _ => s.size - (intOf i).toNat)
  case atStart => exact ⟨0, by omega, rfl, hb1, hown1⟩
  case round =>
    clear hb1 hown1
    obtain ⟨k, hk, rfl, hb, hown⟩ := hrel
    by_cases hlt : k < s.size
    · skip
      have hBr := hb.size
      obtain ⟨xs, hxs⟩ : ∃ xs, hexL (s.data.toList.take k) = xs := ⟨_, rfl⟩
      have hxl : xs.length = 2 * k := by rw [← hxs, hexL_len']; have h2 : s.data.size = s.size := rfl; simp; omega
      have HT := Lib.hid (take_one s k hlt)
      have HU := Lib.hid hxs
      rw [hxs] at hown
      clear hxs
      obtain ⟨p, c, rfl⟩ := ownB_slice hown
      obtain ⟨a, ha⟩ : ∃ a, s[k] = a := ⟨_, rfl⟩
      have hb1 := UInt8.toNat_lt a
      obtain ⟨i0, hi0, y0, y1, y2⟩ := info_parts Tryz.infoU8
      have v1 : a.toNat / 16 < 16 := by omega
      have v2 : a.toNat % 16 < 16 := by omega
      have v3 : (a.toNat : Int) / 16 < 16 := by omega
      have v4 : (a.toNat : Int) % 16 < 16 := by omega
      have v5 : (0 : Int) ≤ (a.toNat : Int) / 16 := by omega
      have v6 : (0 : Int) ≤ (a.toNat : Int) % 16 := by omega
      have v7 : ((a.toNat : Int) / 16).toNat = a.toNat / 16 := by omega
      have v8 : ((a.toNat : Int) % 16).toNat = a.toNat % 16 := by omega
      have HN := Lib.hid (show hexL (s.data.toList.take (k + 1)) = xs ++ [chexD (a.toNat / 16), chexD (a.toNat % 16)] by
        rw [HT.out, hexL_snoc, HU.out, ha])
      have E1 := Lib.hid (chexLit_at (a.toNat / 16) v1)
      have E2 := Lib.hid (chexLit_at (a.toNat % 16) v2)
      have hown2 : wr.drew.ownsRow w.heap.size 5 1 (.slice p xs.length c) xs.length (xs.map fun c : UInt8 => Value.int .u8 (c.toNat : Int)) := hown
      have hm1 : xs.length + 2 ≤ maxLen := by unfold maxLen; omega
      have hm2 : (xs.length + 2) * 1 ≤ 140737488355328 := by omega
      clear HU HT hxl
      have e15 : bits BinOp.and IntKind.u8 (a.toNat : Int) 15 = (a.toNat : Int) % 16 := u8_and15 _ (by omega) (by omega)
      go_wp2_with fail
      go_region_law (refine step_append_lies _ (by rfl) _ _ _ (by rfl) w.heap.size 5 i0 (.int .u8 0) 1 1 Tryz.underlying41 hi0 y0 y1 y2 rfl (by omega) (.slice p xs.length c) xs.length (xs.map fun c : UInt8 => Value.int .u8 (c.toNat : Int)) (by rfl) (hown2.alloc _) ⟨wr.heap.size, 0, none⟩ 2 2 [.int .u8 ((chexLit[a.toNat / 16]'v1).toNat : Int), .int .u8 ((chexLit[a.toNat % 16]'v2).toNat : Int)] (by rfl) (by rfl) (World.news_of_block (cs := #[.int .u8 ((chexLit[a.toNat / 16]'v1).toNat : Int), .int .u8 ((chexLit[a.toNat % 16]'v2).toNat : Int)]) (t := 5) (fr := (0, 0)) (heap_alloc_new wr.drew _)) (by intro u hu; simp at hu; rcases hu with rfl | rfl <;> rfl) (by omega) hm1 hm2 (by simp; omega) (wr.heap.size + 1) (by simp) ?_; intro g2 cap w5 hown5 hgrow hat hlt5)
      all_goals
        have hX5 : ownB w5 w.heap.size (.slice (some ⟨g2, 0, none⟩) (xs.length + 2) cap) (xs ++ [chexD (a.toNat / 16), chexD (a.toNat % 16)]) := by
          have h := hown5
          rw [E1.out, E2.out] at h
          unfold ownB; simpa using h
        have hb5 : Below w.heap.size w w5 := ((hb.drew).alloc hBr _).grown hgrow (by simp; omega) (own_base hown)
        clear hgrow hat
        go_wp2
        go_roundw
      all_goals first
        | (case rel => exact ⟨k + 1, by omega, by go_num, hb5, by rw [HN.out]; exact hX5⟩)
        | (case measure => simp [intOf]; omega)
    · skip
      have HF := Lib.hid (show hexL (s.data.toList.take k) = hexL s.data.toList by rw [List.take_of_length_le (by have h2 : s.data.size = s.size := rfl; simp; omega)])
      rw [HF.out] at hown
      obtain ⟨p, c, rfl⟩ := ownB_slice hown
      have hcv := convB hown
      go_wp2
      go_ret
      exact ⟨rfl, hb⟩
set_option maxRecDepth 100000 in
set_option maxHeartbeats 1000000 in
theorem rhex_in (s : ByteArray) (hs : s.size ≤ 70000000000000) (w : World) :
    Calls Tryz.prog 23 #[.string s] w fun e w' => e = .returned (.string ⟨(hexL s.data.toList).toArray⟩) ∧ Below w.heap.size w w' := by
  go_enter Tryz.func23, Tryz.ntmps23
  go_wp2
  go_loopw [4, 5] (fun v i wr => ∃ k : Nat, k ≤ s.size ∧ i = .int .i64 k ∧ Below w.heap.size w wr ∧ ownB wr w.heap.size v (hexL (s.data.toList.take k))) (fun _ i _ => s.size - (intOf i).toNat)
  case atStart => exact ⟨0, by omega, rfl, Below.refl _ _, ownB_nil _ _⟩
  case round =>
    obtain ⟨k, hk, rfl, hb, hown⟩ := hrel
    by_cases hlt : k < s.size
    · skip
      have hBr := hb.size
      obtain ⟨xs, hxs⟩ : ∃ xs, hexL (s.data.toList.take k) = xs := ⟨_, rfl⟩
      have hxl : xs.length = 2 * k := by rw [← hxs, hexL_len']; have h2 : s.data.size = s.size := rfl; simp; omega
      have HT := Lib.hid (take_one s k hlt)
      have HU := Lib.hid hxs
      rw [hxs] at hown
      clear hxs
      obtain ⟨p, c, rfl⟩ := ownB_slice hown
      obtain ⟨a, ha⟩ : ∃ a, s[k] = a := ⟨_, rfl⟩
      have hb1 := UInt8.toNat_lt a
      obtain ⟨i0, hi0, y0, y1, y2⟩ := info_parts Tryz.infoU8
      have v1 : a.toNat / 16 < 16 := by omega
      have v2 : a.toNat % 16 < 16 := by omega
      have v3 : (a.toNat : Int) / 16 < 16 := by omega
      have v4 : (a.toNat : Int) % 16 < 16 := by omega
      have v5 : (0 : Int) ≤ (a.toNat : Int) / 16 := by omega
      have v6 : (0 : Int) ≤ (a.toNat : Int) % 16 := by omega
      have v7 : ((a.toNat : Int) / 16).toNat = a.toNat / 16 := by omega
      have v8 : ((a.toNat : Int) % 16).toNat = a.toNat % 16 := by omega
      have HN := Lib.hid (show hexL (s.data.toList.take (k + 1)) = xs ++ [chexD (a.toNat / 16), chexD (a.toNat % 16)] by
        rw [HT.out, hexL_snoc, HU.out, ha])
      have E1 := Lib.hid (chexLit_at (a.toNat / 16) v1)
      have E2 := Lib.hid (chexLit_at (a.toNat % 16) v2)
      have hown2 : wr.drew.ownsRow w.heap.size 5 1 (.slice p xs.length c) xs.length (xs.map fun c : UInt8 => Value.int .u8 (c.toNat : Int)) := hown
      have hm1 : xs.length + 2 ≤ maxLen := by unfold maxLen; omega
      have hm2 : (xs.length + 2) * 1 ≤ 140737488355328 := by omega
      clear HU HT hxl
      have q1 : IntKind.u8.wrap ((a.toNat : Int) / 16) = (a.toNat : Int) / 16 := IntWalk.u8_in _ ⟨by omega, by omega⟩
      have q2 : IntKind.u8.wrap ((a.toNat : Int).tmod 16) = (a.toNat : Int) % 16 := by
        rw [Int.tmod_eq_emod_of_nonneg (by omega)]; exact IntWalk.u8_in _ ⟨by omega, by omega⟩
      have q4 : (a.toNat : Int).tmod 16 = (a.toNat : Int) % 16 := Int.tmod_eq_emod_of_nonneg (by omega)
      have q3 : IntKind.u8.wrap ((a.toNat : Int) % 16) = (a.toNat : Int) % 16 := IntWalk.u8_in _ ⟨by omega, by omega⟩
      go_wp2_with fail
      go_region_law (refine step_append_lies _ (by rfl) _ _ _ (by rfl) w.heap.size 5 i0 (.int .u8 0) 1 1 Tryz.underlying41 hi0 y0 y1 y2 rfl (by omega) (.slice p xs.length c) xs.length (xs.map fun c : UInt8 => Value.int .u8 (c.toNat : Int)) (by rfl) (hown2.alloc _) ⟨wr.heap.size, 0, none⟩ 2 2 [.int .u8 ((chexLit[a.toNat / 16]'v1).toNat : Int), .int .u8 ((chexLit[a.toNat % 16]'v2).toNat : Int)] (by rfl) (by rfl) (World.news_of_block (cs := #[.int .u8 ((chexLit[a.toNat / 16]'v1).toNat : Int), .int .u8 ((chexLit[a.toNat % 16]'v2).toNat : Int)]) (t := 5) (fr := (0, 0)) (heap_alloc_new wr.drew _)) (by intro u hu; simp at hu; rcases hu with rfl | rfl <;> rfl) (by omega) hm1 hm2 (by simp; omega) (wr.heap.size + 1) (by simp) ?_; intro g2 cap w5 hown5 hgrow hat hlt5)
      all_goals
        have hX5 : ownB w5 w.heap.size (.slice (some ⟨g2, 0, none⟩) (xs.length + 2) cap) (xs ++ [chexD (a.toNat / 16), chexD (a.toNat % 16)]) := by
          have h := hown5
          rw [E1.out, E2.out] at h
          unfold ownB; simpa using h
        have hb5 : Below w.heap.size w w5 := ((hb.drew).alloc hBr _).grown hgrow (by simp; omega) (own_base hown)
        clear hgrow hat
        go_wp2
        go_roundw
      all_goals first
        | (case rel => exact ⟨k + 1, by omega, by go_num, hb5, by rw [HN.out]; exact hX5⟩)
        | (case measure => simp [intOf]; omega)
    · skip
      have HF := Lib.hid (show hexL (s.data.toList.take k) = hexL s.data.toList by rw [List.take_of_length_le (by have h2 : s.data.size = s.size := rfl; simp; omega)])
      rw [HF.out] at hown
      obtain ⟨p, c, rfl⟩ := ownB_slice hown
      have hcv := convB hown
      go_wp2
      go_ret
      exact ⟨rfl, hb⟩
end Go.Proofs.YtibffdaljmmdoaaGreatDoor
/- The walks of signs and text16: the characters of units. -/
namespace Go.Proofs.YtibffdaljmmdoaaGreatDoor
open Go.RowKit Go.Shelf Fo
attribute [local go_sem] Oper.semAt_some

/-- A code point, held below the last. -/
def cl (u : Nat) : Nat := min u 1114111
def encS (x : Nat × Bool) : Array Value := #[.int .i32 ((cl x.1 : Nat) : Int), .bool x.2]
theorem signsL_le : ∀ (us : List Nat), (∀ u ∈ us, u < 65536) → ∀ x ∈ signsL us, cl x.1 = x.1
  | [], _, x, h => by simp [signsL] at h
  | [u], hu, x, h => by
    have := hu u (by simp)
    rw [signsL] at h
    split at h
    · simp at h; subst h; rfl
    · simp [signsL] at h; subst h; unfold cl; dsimp only; omega
  | u :: v :: us, hu, x, h => by
    have h1 := hu u (by simp)
    have h2 := hu v (by simp)
    rw [signsL] at h
    split at h
    · split at h
      · simp at h; subst h; rfl
      · rcases List.mem_cons.1 h with rfl | h
        · unfold cl; dsimp only; omega
        · exact signsL_le us (fun w hw => hu w (by simp [hw])) x h
    · rcases List.mem_cons.1 h with rfl | h
      · unfold cl; dsimp only; omega
      · exact signsL_le (v :: us) (fun w hw => hu w (by simp at hw ⊢; exact Or.inr hw)) x h
theorem signsL_len : ∀ (us : List Nat), (signsL us).length ≤ us.length
  | [] => by simp [signsL]
  | [u] => by rw [signsL]; split <;> simp [signsL]
  | u :: v :: us => by
    rw [signsL]
    split
    · split
      · simp
      · have := signsL_len us; simp; omega
    · have := signsL_len (v :: us); simp at this ⊢; omega
set_option maxHeartbeats 1000000 in
theorem signs_in (F : Fence) (n : Nat) (hf : F.fn 60) (hro : F.round = none) (p : Option Addr) (m c : Nat) (w : World) :
    CallsIn F n Tryz.prog 60 #[.slice p m c] w fun e w' => e = .returned (.func (.func 78) #[] #[.pointer (some ⟨w.heap.size, 0, none⟩)]) ∧ w' = w.alloc (.cells #[.slice p m c] 72) := by
  refine callsIn_of_wp Tryz.func60 rfl hf ?_ hro
  simp only [Tryz.ntmps60, List.size_toArray, List.length_cons, List.length_nil, Nat.reduceAdd, Nat.reduceSub, Array.replicate_succ, Array.replicate_zero, List.push_toArray, List.append_toArray, List.nil_append, List.cons_append]
  gi_wp2
  go_ret
  exact ⟨rfl, rfl⟩
theorem signs_plain {u : Nat} (h : ¬ (55296 ≤ u ∧ u < 57344)) (r : List Nat) : signsL (u :: r) = (u, true) :: signsL r := by
  cases r with
  | nil => simp only [signsL]; rw [if_neg h]
  | cons v r => rw [signsL, if_neg h]
theorem signs_bad {u : Nat} (h : 55296 ≤ u ∧ u < 57344) {r : List Nat} (hr : r = [] ∨ 56320 ≤ u ∨ r.headD 0 < 56320 ∨ 57344 ≤ r.headD 0) : signsL (u :: r) = [(0, false)] := by
  cases r with
  | nil => simp only [signsL]; rw [if_pos h]
  | cons v r => rw [signsL, if_pos h, if_pos (by simpa using hr)]
theorem signs_pair {u v : Nat} (h : 55296 ≤ u ∧ u < 56320) (hv : 56320 ≤ v ∧ v < 57344) (r : List Nat) : signsL (u :: v :: r) = (65536 + (u - 55296) * 1024 + (v - 56320), true) :: signsL r := by
  rw [signsL, if_pos (by omega), if_neg (by omega)]
theorem yield_at {F : Fence} {n l : Nat} {a b : Array Value} {W : World} {R : Ending → World → Prop} (h : YieldAt F n Tryz.prog l a W R) (e : a = b) : YieldAt F n Tryz.prog l b W R := e ▸ h
/-- What a round keeps: all below n₀, and the box Bn. -/
structure KeepU (n₀ Bn : Nat) (W W' : World) : Prop where
  below : Below n₀ W W'
  box : W'.heap[Bn]? = W.heap[Bn]?
theorem KeepU.refl (n₀ Bn : Nat) (W : World) : KeepU n₀ Bn W W := ⟨Below.refl _ _, rfl⟩
theorem KeepU.trans {n₀ Bn : Nat} {A B C : World} (h : KeepU n₀ Bn A B) (k : KeepU n₀ Bn B C) : KeepU n₀ Bn A C := ⟨h.below.trans k.below, k.box.trans h.box⟩
/-- The slice of units lies below n₀, its box anywhere. -/
structure UAt (W : World) (n₀ Bn : Nat) (p : Option Addr) (c : Nat) (us : List Nat) : Prop where
  box : W.cell? ⟨Bn, 0, none⟩ = some (.slice p us.length c)
  cell : ∀ k (h : k < us.length), ∃ g, p = some ⟨g, 0, none⟩ ∧ g < n₀ ∧ W.cell? ⟨g, k, none⟩ = some (.int .u16 (us[k] : Nat))
theorem UAt.below {W W' : World} {n₀ Bn c : Nat} {p : Option Addr} {us : List Nat} (h : UAt W n₀ Bn p c us) (hb : KeepU n₀ Bn W W') : UAt W' n₀ Bn p c us :=
  ⟨(World.cell?_of_block hb.box).trans h.box, fun k hk => by
    obtain ⟨g, h1, h2, h3⟩ := h.cell k hk
    exact ⟨g, h1, h2, (hb.below.cell (p := ⟨g, k, none⟩) h2).trans h3⟩⟩
set_option maxRecDepth 100000 in
set_option maxHeartbeats 2000000 in
theorem signs1_in (F : Fence) (n : Nat) (hf : F.fn 78) (hro : F.round = none) (hn : 1 ≤ n) (l Bn n₀ : Nat) (p : Option Addr) (c : Nat) (us : List Nat) (hus : ∀ u ∈ us, u < 65536) (hul : us.length ≤ 1000000000) (J Jx : List (Nat × Bool) → World → Prop)
    (hY : ∀ pre x W, J pre W → pre.length < us.length → YieldAt F (n - 1) Tryz.prog l (encS x) W fun e W' =>
      (e = .returned (.bool true) ∧ J (pre ++ [x]) W' ∧ KeepU n₀ Bn W W') ∨ (e = .returned (.bool false) ∧ Jx (pre ++ [x]) W'))
    (W : World) (hU : UAt W n₀ Bn p c us) (h0 : J [] W) :
    CallsIn F n Tryz.prog 78 #[.func (.yield l) #[] #[], .pointer (some ⟨Bn, 0, none⟩)] W fun e W' => (∃ v, e = .returned v) ∧
      ((∃ ys, ys = signsL us ∧ J ys W') ∨ (∃ pre, pre <+: signsL us ∧ Jx pre W')) := by
  refine callsIn_of_wp Tryz.func78 rfl hf ?_ hro
  simp only [Tryz.ntmps78, List.size_toArray, List.length_cons, List.length_nil, Nat.reduceAdd, Nat.reduceSub, Array.replicate_succ, Array.replicate_zero, List.push_toArray, List.append_toArray, List.nil_append, List.cons_append]
  have HU := Lib.hid hU
  clear hU
  gi_wp2
  gi_loopw [3] (fun i wr => ∃ (k : Nat) (pre : List (Nat × Bool)), k ≤ us.length ∧ i = .int .i64 k ∧ Hid (signsL us = pre ++ signsL (us.drop k)) ∧ Hid (pre.length ≤ k) ∧ Hid (KeepU n₀ Bn W wr) ∧ J pre wr) (fun i _ => us.length - (intOf i).toNat)
  case atStart => exact ⟨0, [], Nat.zero_le _, rfl, Lib.hid (by simp), Lib.hid (Nat.zero_le _), Lib.hid (KeepU.refl _ _ _), h0⟩
  case round =>
    obtain ⟨k, pre, hk, rfl, HS, HP, HB, hJ⟩ := hrel
    have hUr := HU.out.below HB.out
    have b0 := hUr.box
    by_cases hlt : k < us.length
    · obtain ⟨g, rfl, hg, c0⟩ := hUr.cell k hlt
      obtain ⟨u, hu⟩ : ∃ u, us[k] = u := ⟨_, rfl⟩
      have hu6 : u < 65536 := hu ▸ hus _ (List.getElem_mem hlt)
      have hdr : us.drop k = u :: us.drop (k + 1) := by rw [List.drop_eq_getElem_cons hlt, hu]
      rw [hdr] at HS
      rw [hu] at c0
      have hpl : pre.length < us.length := Nat.lt_of_le_of_lt HP.out hlt
      clear hu hdr
      by_cases hsur : 55296 ≤ u ∧ u < 57344
      · by_cases hok : u < 56320 ∧ k + 1 < us.length ∧ 56320 ≤ us.getD (k + 1) 0 ∧ us.getD (k + 1) 0 < 57344
        · obtain ⟨h1, h2, h3, h4⟩ := hok
          obtain ⟨g', e, _, c1⟩ := hUr.cell (k + 1) h2
          cases e
          obtain ⟨v, hv⟩ : ∃ v, us[k + 1] = v := ⟨_, rfl⟩
          have hvd : us.getD (k + 1) 0 = v := by simp [List.getD, h2, hv]
          rw [hvd] at h3 h4
          rw [hv] at c1
          have hdr2 : us.drop (k + 1) = v :: us.drop (k + 2) := by rw [List.drop_eq_getElem_cons h2, hv]
          have HS2 := Lib.hid (show signsL us = pre ++ (65536 + (u - 55296) * 1024 + (v - 56320), true) :: signsL (us.drop (k + 2)) by
            rw [HS.out, hdr2, signs_pair ⟨hsur.1, h1⟩ ⟨h3, h4⟩])
          obtain ⟨fn, tmps, assign, body, hy, hR⟩ := yield_at (hY pre (65536 + (u - 55296) * 1024 + (v - 56320), true) wr hJ hpl) (b := #[.int .i32 (65536 + ((u : Int) - 55296) * 1024 + v - 56320), .bool true]) (by
            unfold encS cl
            have : ((min (65536 + (u - 55296) * 1024 + (v - 56320)) 1114111 : Nat) : Int) = 65536 + ((u : Int) - 55296) * 1024 + v - 56320 := by omega
            simp only; rw [this])
          have k1 : ((k : Int) + 1).toNat = k + 1 := by omega
          obtain ⟨hs1, hs2⟩ := hsur
          have HR := Lib.hid hR
          obtain ⟨z, hz⟩ : ∃ z : Int, (u : Int) = z := ⟨_, rfl⟩
          obtain ⟨x, hx⟩ : ∃ x : Int, (v : Int) = x := ⟨_, rfl⟩
          rw [hz] at c0
          rw [hx] at c1
          rw [hz, hx] at hy
          have z1 : 55296 ≤ z := by omega
          have z2 : z < 56320 := by omega
          have z3 : z < 57344 := by omega
          have x1 : 56320 ≤ x := by omega
          have x2 : x < 57344 := by omega
          have HZ := Lib.hid (And.intro (And.intro hs1 (And.intro hs2 hu6)) (And.intro h1 (And.intro h3 h4)))
          have hk2 : (k : Int) + 1 < us.length := by omega
          have d1 : decide (56320 ≤ z) = false := by simp; omega
          have d2 : ((k : Int) + 1 == (us.length : Int)) = false := by simp; omega
          have d3 : decide (x < 56320) = false := by simp; omega
          have d4 : decide (57344 ≤ x) = false := by simp; omega
          clear hv hvd hdr2 HS hR hY hUr hz hx hs1 hs2 hu6 h1 h3 h4
          gi_wp2
          refine HR.out.mono ?_
          rintro e W3 (⟨rfl, hJ3, hk3⟩ | ⟨rfl, hJx3⟩)
          · gi_wp2
            go_roundw
            case rel => exact ⟨k + 2, _, by omega, by go_num, Lib.hid (by rw [HS2.out, List.append_assoc]; rfl), Lib.hid (by have := HP.out; simp; omega), Lib.hid (HB.out.trans hk3), hJ3⟩
            case measure => simp [intOf]; omega
          · gi_wp2
            refine bodyPost_ret (results_none rfl _ _ _) rfl ?_
            exact ⟨⟨_, rfl⟩, .inr ⟨_, ⟨_, by rw [HS2.out, List.append_assoc]; rfl⟩, hJx3⟩⟩
        · have HS2 := Lib.hid (show signsL us = pre ++ [(0, false)] by
            rw [HS.out, signs_bad hsur (by
              by_cases h2 : k + 1 < us.length
              · have e : (us.drop (k + 1)).headD 0 = us.getD (k + 1) 0 := by rw [List.drop_eq_getElem_cons h2]; simp [List.getD, h2]
                rw [e]; right; omega
              · left; exact List.drop_eq_nil_of_le (by omega))])
          obtain ⟨fn, tmps, assign, body, hy, hR⟩ := yield_at (hY pre (0, false) wr hJ hpl) (b := #[.int .i32 0, .bool false]) (by simp [encS, cl])
          have k1 : ((k : Int) + 1).toNat = k + 1 := by omega
          have HR := Lib.hid hR
          obtain ⟨z, hz⟩ : ∃ z : Int, (u : Int) = z := ⟨_, rfl⟩
          rw [hz] at c0
          have z1 : 55296 ≤ z := by omega
          have z3 : z < 57344 := by omega
          by_cases hb1 : 56320 ≤ u
          · have d1 : decide (56320 ≤ z) = true := by simp; omega
            clear HS hR hY hUr hz hsur hok hb1 hu6
            gi_wp2
            refine HR.out.mono ?_
            rintro e W3 (⟨rfl, hJ3, hk3⟩ | ⟨rfl, hJx3⟩)
            · gi_wp2
              refine bodyPost_ret (results_none rfl _ _ _) rfl ?_
              exact ⟨⟨_, rfl⟩, .inl ⟨_, HS2.out.symm, hJ3⟩⟩
            · gi_wp2
              refine bodyPost_ret (results_none rfl _ _ _) rfl ?_
              exact ⟨⟨_, rfl⟩, .inr ⟨_, ⟨[], by rw [HS2.out]; simp⟩, hJx3⟩⟩
          · have d1 : decide (56320 ≤ z) = false := by simp; omega
            by_cases hb2 : k + 1 = us.length
            · have d2 : ((k : Int) + 1 == (us.length : Int)) = true := by simp; omega
              clear HS hR hY hUr hz hsur hok hb1 hu6 hb2
              gi_wp2
              refine HR.out.mono ?_
              rintro e W3 (⟨rfl, hJ3, hk3⟩ | ⟨rfl, hJx3⟩)
              · gi_wp2
                refine bodyPost_ret (results_none rfl _ _ _) rfl ?_
                exact ⟨⟨_, rfl⟩, .inl ⟨_, HS2.out.symm, hJ3⟩⟩
              · gi_wp2
                refine bodyPost_ret (results_none rfl _ _ _) rfl ?_
                exact ⟨⟨_, rfl⟩, .inr ⟨_, ⟨[], by rw [HS2.out]; simp⟩, hJx3⟩⟩
            · have d2 : ((k : Int) + 1 == (us.length : Int)) = false := by simp; omega
              have h2 : k + 1 < us.length := by omega
              obtain ⟨g', e, _, c1⟩ := hUr.cell (k + 1) h2
              cases e
              obtain ⟨v, hv⟩ : ∃ v, us[k + 1] = v := ⟨_, rfl⟩
              have hvd : us.getD (k + 1) 0 = v := by simp [List.getD, h2, hv]
              rw [hvd] at hok
              rw [hv] at c1
              have hv6 : v < 65536 := hv ▸ hus _ (List.getElem_mem h2)
              obtain ⟨x, hx⟩ : ∃ x : Int, (v : Int) = x := ⟨_, rfl⟩
              rw [hx] at c1
              have hk2 : (k : Int) + 1 < us.length := by omega
              by_cases hb3 : v < 56320
              · have d3 : decide (x < 56320) = true := by simp; omega
                clear HS hR hY hUr hz hsur hok hb1 hu6 hb2 hv hvd hx hv6 hb3
                gi_wp2
                refine HR.out.mono ?_
                rintro e W3 (⟨rfl, hJ3, hk3⟩ | ⟨rfl, hJx3⟩)
                · gi_wp2
                  refine bodyPost_ret (results_none rfl _ _ _) rfl ?_
                  exact ⟨⟨_, rfl⟩, .inl ⟨_, HS2.out.symm, hJ3⟩⟩
                · gi_wp2
                  refine bodyPost_ret (results_none rfl _ _ _) rfl ?_
                  exact ⟨⟨_, rfl⟩, .inr ⟨_, ⟨[], by rw [HS2.out]; simp⟩, hJx3⟩⟩
              · have d3 : decide (x < 56320) = false := by simp; omega
                have d4 : decide (57344 ≤ x) = true := by simp; omega
                clear HS hR hY hUr hz hsur hok hb1 hu6 hb2 hv hvd hx hv6 hb3
                gi_wp2
                refine HR.out.mono ?_
                rintro e W3 (⟨rfl, hJ3, hk3⟩ | ⟨rfl, hJx3⟩)
                · gi_wp2
                  refine bodyPost_ret (results_none rfl _ _ _) rfl ?_
                  exact ⟨⟨_, rfl⟩, .inl ⟨_, HS2.out.symm, hJ3⟩⟩
                · gi_wp2
                  refine bodyPost_ret (results_none rfl _ _ _) rfl ?_
                  exact ⟨⟨_, rfl⟩, .inr ⟨_, ⟨[], by rw [HS2.out]; simp⟩, hJx3⟩⟩
      · have HS2 := Lib.hid (show signsL us = pre ++ (u, true) :: signsL (us.drop (k + 1)) by rw [HS.out, signs_plain hsur])
        obtain ⟨fn, tmps, assign, body, hy, hR⟩ := yield_at (hY pre (u, true) wr hJ hpl) (b := #[.int .i32 (u : Int), .bool true]) (by
            unfold encS cl
            have : ((min u 1114111 : Nat) : Int) = (u : Int) := by omega
            simp only; rw [this])
        have HR := Lib.hid hR
        obtain ⟨z, hz⟩ : ∃ z : Int, (u : Int) = z := ⟨_, rfl⟩
        rw [hz] at c0 hy
        have z0 : 0 ≤ z := by omega
        have z9 : z < 65536 := by omega
        by_cases hlo : u < 55296
        · have d1 : decide (55296 ≤ z) = false := by simp; omega
          clear HS hR hY hUr hsur hz hu6 hlo
          gi_wp2
          refine HR.out.mono ?_
          rintro e W3 (⟨rfl, hJ3, hk3⟩ | ⟨rfl, hJx3⟩)
          · gi_wp2
            go_roundw
            case rel => exact ⟨k + 1, _, by omega, by go_num, Lib.hid (by rw [HS2.out, List.append_assoc]; rfl), Lib.hid (by have := HP.out; simp; omega), Lib.hid (HB.out.trans hk3), hJ3⟩
            case measure => simp [intOf]; omega
          · gi_wp2
            refine bodyPost_ret (results_none rfl _ _ _) rfl ?_
            exact ⟨⟨_, rfl⟩, .inr ⟨_, ⟨_, by rw [HS2.out, List.append_assoc]; rfl⟩, hJx3⟩⟩
        · have d1 : decide (55296 ≤ z) = true := by simp; omega
          have d2 : decide (z < 57344) = false := by simp; omega
          clear HS hR hY hUr hsur hz hu6 hlo
          gi_wp2
          refine HR.out.mono ?_
          rintro e W3 (⟨rfl, hJ3, hk3⟩ | ⟨rfl, hJx3⟩)
          · gi_wp2
            go_roundw
            case rel => exact ⟨k + 1, _, by omega, by go_num, Lib.hid (by rw [HS2.out, List.append_assoc]; rfl), Lib.hid (by have := HP.out; simp; omega), Lib.hid (HB.out.trans hk3), hJ3⟩
            case measure => simp [intOf]; omega
          · gi_wp2
            refine bodyPost_ret (results_none rfl _ _ _) rfl ?_
            exact ⟨⟨_, rfl⟩, .inr ⟨_, ⟨_, by rw [HS2.out, List.append_assoc]; rfl⟩, hJx3⟩⟩
    · have HE := Lib.hid (show signsL us = pre by rw [HS.out, List.drop_eq_nil_of_le (by omega)]; simp [signsL])
      clear HS hY hUr
      gi_wp2
      go_end0
      exact ⟨⟨_, rfl⟩, .inl ⟨_, HE.out.symm, hJ⟩⟩
end Go.Proofs.YtibffdaljmmdoaaGreatDoor
/- The walk of text16: the text of units, or that a surrogate is unpaired. -/
namespace Go.Proofs.YtibffdaljmmdoaaGreatDoor
open Go.RowKit Go.Shelf Fo
attribute [local go_sem] Oper.semAt_some

theorem signs_stops (F : Fence) (n : Nat) (hf : F.fn 78) (hro : F.round = none) (hn : 1 ≤ n) (Bn n₀ : Nat) (p : Option Addr) (c : Nat) (us : List Nat) (hus : ∀ u ∈ us, u < 65536) (hul : us.length ≤ 1000000000) (w : World) (hn₀ : n₀ ≤ w.heap.size) (hBn : Bn < w.heap.size) (hU : UAt w n₀ Bn p c us) :
    SeqStopsK F n Tryz.prog 78 #[.pointer (some ⟨Bn, 0, none⟩)] encS (KeepU n₀ Bn) (fun ys => ys = signsL us) (fun pre => pre <+: signsL us) us.length w := fun l J Jx W hW _ _ hY h0 =>
  signs1_in F n hf hro hn l Bn n₀ p c us hus hul J Jx hY W (hU.below ⟨hW.mono hn₀, hW.block Bn hBn⟩) h0
/-- What has been written when pre has come. -/
def textM (pre : List (Nat × Bool)) : L := pre.flatMap fun x => Lib.encodeRune ((cl x.1 : Nat) : Int)
theorem textM_snoc (pre : List (Nat × Bool)) (x : Nat × Bool) : textM (pre ++ [x]) = textM pre ++ Lib.encodeRune ((cl x.1 : Nat) : Int) := by simp [textM]
theorem textM_len (pre : List (Nat × Bool)) : (textM pre).length ≤ 4 * pre.length := by
  induction pre with
  | nil => simp [textM]
  | cons x pre ih =>
    have := encodeRune_len (cl x.1)
    have e : textM (x :: pre) = Lib.encodeRune ((cl x.1 : Nat) : Int) ++ textM pre := List.flatMap_cons ..
    rw [e, List.length_append, List.length_cons]; omega
theorem textM_eq (l : List (Nat × Bool)) (h : ∀ x ∈ l, cl x.1 = x.1) : textM l = textOf l := by
  unfold textM textOf
  induction l with
  | nil => simp
  | cons x l ih =>
    rw [List.flatMap_cons, List.flatMap_cons, ih fun y hy => h y (by simp [hy]), h x (by simp)]
def T16 (r : Option L) (e : Ending) : Prop := match r with
  | some x => e = .returned (.tuple #[.string ⟨x.toArray⟩, .bool true])
  | none => e = .returned (.tuple #[.string ⟨#[]⟩, .bool false])
theorem cown_slice {w : World} {B : Nat} {e : TypeId} {s n : Nat} {v : Value} {xs : List Value} (h : w.ownsRow B e s v n xs) : ∃ p c, v = .slice p n c := by
  rcases h.2 with ⟨h1, h2⟩ | ⟨g, cap, cur, h1, _⟩
  · exact ⟨none, 0, by rw [h1, h2]⟩
  · exact ⟨_, _, h1⟩
set_option maxRecDepth 100000 in
set_option maxHeartbeats 2000000 in
theorem text16_in (p : Option Addr) (c : Nat) (us : List Nat) (hus : ∀ u ∈ us, u < 65536) (hul : us.length ≤ 1000000000) (w : World)
    (hU : ∀ k (h : k < us.length), ∃ g, p = some ⟨g, 0, none⟩ ∧ g < w.heap.size ∧ w.cell? ⟨g, k, none⟩ = some (.int .u16 (us[k] : Nat))) :
    Calls Tryz.prog 37 #[.slice p us.length c] w fun e w' => T16 (text16 us) e ∧ Below w.heap.size w w' := by
  refine (callsIn_wide (n := 6)).1 ?_
  have hro : Fence.wide.round = none := rfl
  have hfS : Fence.wide.fn 60 := trivial
  refine callsIn_of_wp_marks Tryz.func37 rfl trivial ?_ hro
  simp only [Tryz.ntmps37, List.size_toArray, List.length_cons, List.length_nil, Nat.reduceAdd, Nat.reduceSub, Array.replicate_succ, Array.replicate_zero, List.push_toArray, List.append_toArray, List.nil_append, List.cons_append]
  have HU := Lib.hid hU
  have HV := Lib.hid hus
  clear hU hus
  gi_wp2_with (gi_at_call 60; refine (signs_in Fence.wide _ hfS hro _ _ _ _).mono ?_; rintro e w' ⟨rfl, rfl⟩)
  have hB0 : Below w.heap.size w ((((w.alloc (.cells #[.string ⟨#[]⟩] 9)).alloc (.cells #[.bool false] 4)).alloc (.cells #[.slice none 0 0] 41)).alloc (.cells #[.slice p us.length c] 72)) :=
    ((((Below.refl _ w).alloc (Nat.le_refl _) _).alloc (by simp) _).alloc (by simp; omega) _).alloc (by simp; omega) _
  have x0 := ((((Boxed.new w 9 (.string ⟨#[]⟩)).alloc (.cells #[.bool false] 4)).alloc (.cells #[.slice none 0 0] 41)).alloc (.cells #[.slice p us.length c] 72))
  have x1 := ((Boxed.new (w.alloc (.cells #[.string ⟨#[]⟩] 9)) 4 (.bool false)).alloc (.cells #[.slice none 0 0] 41)).alloc (.cells #[.slice p us.length c] 72)
  have x2 := (Boxed.new ((w.alloc (.cells #[.string ⟨#[]⟩] 9)).alloc (.cells #[.bool false] 4)) 41 (.slice none 0 0)).alloc (.cells #[.slice p us.length c] 72)
  have x3 := Boxed.new (((w.alloc (.cells #[.string ⟨#[]⟩] 9)).alloc (.cells #[.bool false] 4)).alloc (.cells #[.slice none 0 0] 41)) 72 (.slice p us.length c)
  simp only [World.size_alloc] at x1 x2 x3
  obtain ⟨W0, hW0⟩ : ∃ W0, ((((w.alloc (.cells #[.string ⟨#[]⟩] 9)).alloc (.cells #[.bool false] 4)).alloc (.cells #[.slice none 0 0] 41)).alloc (.cells #[.slice p us.length c] 72)) = W0 := ⟨_, rfl⟩
  have hs0 : W0.heap.size = w.heap.size + 4 := by rw [← hW0]; simp
  rw [hW0] at hB0 x0 x1 x2 x3
  rw [hW0]
  obtain ⟨z, hz⟩ : ∃ z, w.heap.size = z := ⟨_, rfl⟩
  have hUA : UAt W0 z (z + 1 + 1 + 1) p c us := ⟨hz ▸ x3.cell, fun k hk => by
    obtain ⟨g, h1, h2, h3⟩ := HU.out k hk
    exact ⟨g, h1, by omega, (hB0.cell (p := ⟨g, k, none⟩) h2).trans h3⟩⟩
  rw [hz] at x0 x1 x2 hB0 hs0
  rw [hz]
  rw [hz] at x3
  clear hW0 HU
  refine wpIn_rangeFunc_ownG hro (by omega) (gf := 78) (lb := #[.pointer (some ⟨z + 1 + 1 + 1, 0, none⟩)]) rfl trivial (enters_of Tryz.func78 (by kernel_rfl) rfl)
    (signs_stops Fence.wide _ trivial hro (by omega) (z + 1 + 1 + 1) z p c us HV.out hul W0 (by omega) (by omega) hUA) (fun h k => h.trans k) (fun W l o o' hl ho h1 h2 => ⟨belowK_b (n₀ := z) (by omega) W l o o' hl ho h1 h2, World.putObj_heap_other (by omega)⟩) (Below.refl _ _) (fun _ => rfl)
    (fun (pre : List (Nat × Bool)) W => ((∃ v, Boxed W (z + 1 + 1) 41 v ∧ W.ownsRow z 5 1 v (textM pre).length (Lib.byteCells (textM pre)) ∧ True) ∧ Boxed W (z + 1 + 1 + 1) 72 (.slice p us.length c) ∧ Boxed W z 9 (.string ⟨#[]⟩) ∧ Boxed W (z + 1) 4 (.bool false) ∧ pre.all (·.2) = true) ∧ Below z w W)
    (fun cd (pre : List (Nat × Bool)) W => (Boxed W z 9 (.string ⟨#[]⟩) ∧ Boxed W (z + 1) 4 (.bool false) ∧ cd = .ret ∧ pre.all (·.2) = false) ∧ Below z w W)
    (OwnFrom.and (OwnFrom.and (Own.from (holdsRow_own z (z + 1 + 1) 41 5 1 (fun pre => (textM pre).length) (fun pre => Lib.byteCells (textM pre)) (fun _ _ => True)) _) (OwnFrom.and (Own.from (boxed_own _ _ _) _) (OwnFrom.and (Own.from (boxed_own _ _ _) _) (OwnFrom.and (Own.from (boxed_own _ _ _) _) (ownFrom_pure _ (fun pre : List (Nat × Bool) => pre.all (·.2) = true)))))) (ownFrom_below (by omega) (by omega)))
    (fun cd => OwnFrom.and (OwnFrom.and (Own.from (boxed_own _ _ _) _) (OwnFrom.and (Own.from (boxed_own _ _ _) _) (ownFrom_pure _ (fun pre : List (Nat × Bool) => cd = .ret ∧ pre.all (·.2) = false)))) (ownFrom_below (by omega) (by omega)))
    ⟨⟨⟨_, x2, World.ownsRow_nil _ _ _ _, trivial⟩, x3, x0, x1, rfl⟩, hB0⟩
    (fun x => { tmps := #[.slice p us.length c, undef, .pointer (some ⟨z, 0, none⟩), .pointer (some ⟨z + 1, 0, none⟩), .pointer (some ⟨z + 1 + 1, 0, none⟩), .int .i32 ((cl x.1 : Nat) : Int), .bool x.2, .slice p us.length c, .func (.func 78) #[] #[.pointer (some ⟨z + 1 + 1 + 1, 0, none⟩)], .int .i32 ((cl x.1 : Nat) : Int), .bool x.2, undef, undef, undef, undef, undef, undef, undef], defers := [] }) ?assign ?body ?done ?stop
  case assign =>
    intro l x W K hK
    unfold encS
    gi_wp2
    exact hK
  case body =>
    rintro l pre ⟨u, b⟩ W ⟨⟨⟨v, hv, hrow, _⟩, b3, b0, b1, hall⟩, hB⟩ hlt
    have hc := hv.cell
    have c0 := b0.cell
    have c1 := b1.cell
    have f0 := b0.frozen
    have f1 := b1.frozen
    cases b
    · have HA := Lib.hid hall
      clear hall hv hrow hc
      gi_wp2
      exact ⟨((KeepsOthers.setCell _ _ _).trans (KeepsOthers.setCell _ _ _)).from _, ⟨((b0.set _).other (by omega) _), ((b1.other (by omega) _).set _), rfl, by simp⟩, (hB.setCell (Nat.le_refl _) _).setCell (by show z ≤ z + 1; omega) _⟩
    · have hml := textM_len pre
      have hcl : cl u ≤ 1114111 := by unfold cl; omega
      have HA := Lib.hid hall
      obtain ⟨r, hr⟩ : ∃ r : Int, ((cl u : Nat) : Int) = r := ⟨_, rfl⟩
      have r0 : 0 ≤ r := by omega
      have r1 : r ≤ 1114111 := by omega
      dsimp only at hr ⊢
      rw [hr]
      clear hall
      gi_wp2_with (refine ⟨trivial, ?_⟩; gi_at_call 61; refine (CallsIn.inRound l (callsIn_wide.2 (Tryz.utf8_AppendRune_plain z v (textM pre).length (Lib.byteCells (textM pre)) r (by omega) (by omega) _ hrow (by omega) (by have := hB.size; omega)))).mono ?_; rintro e w1 ⟨v', rfl, hown', o, hgrow⟩; obtain ⟨p', c', rfl⟩ := cown_slice hown'; obtain ⟨hv1, hv2, hr2, hk2, hb2⟩ := hv.appended (by decide) hrow (by have := hB.size; omega) (by omega) hown' hgrow; have hc1 := hv1.cell; have hf1 := hv1.frozen)
      have hb0' := ((b0.alloc o).kept hgrow (b0.not_row (by decide) hrow)).other (B' := z + 1 + 1) (by omega) (.slice p' ((textM pre).length + (Lib.runeCells r).length) c')
      have hb1' := ((b1.alloc o).kept hgrow (b1.not_row (by decide) hrow)).other (B' := z + 1 + 1) (by omega) (.slice p' ((textM pre).length + (Lib.runeCells r).length) c')
      have hb3' := ((b3.alloc o).kept hgrow (b3.not_row (by decide) hrow)).other (B' := z + 1 + 1) (by omega) (.slice p' ((textM pre).length + (Lib.runeCells r).length) c')
      refine ⟨hk2.from _, ⟨hb2, hb3'.trans b3.symm⟩, ⟨⟨_, hv2, ?_, trivial⟩, hb3', hb0', hb1', by simp [HA.out]⟩, hB.trans hb2⟩
      rw [textM_snoc, Lib.byteCells_append, Lib.byteCells_encodeRune, List.length_append, ← Lib.runeCells_length, hr]
      exact hr2
  case done =>
    rintro D ys W hD rfl ⟨⟨⟨v, hv, hrow, _⟩, b3, b0, b1, hall⟩, hB⟩ hK
    obtain ⟨p', c', rfl⟩ := cown_slice hrow
    have hc := hv.cell
    have c0 := b0.cell
    have c1 := b1.cell
    have f0 := b0.frozen
    have f1 := b1.frozen
    have hcv := convB (w := W) (B := z) (l := textM (signsL us)) hrow
    have HA := Lib.hid hall
    clear hall hv hrow
    have hlt : z < D ∧ z + 1 < D := ⟨by omega, by omega⟩
    gi_wp2
    have hK' := ((KeepsOthers.setCell W ⟨z, 0, none⟩ (.string ⟨(textM (signsL us)).toArray⟩)).trans (KeepsOthers.setCell _ ⟨z + 1, 0, none⟩ (.bool true))).same D _ hK rfl
    refine ⟨by simp, .inl ⟨_, _, rfl, run_takeDeferred hK', ?_⟩⟩
    have y0 := ((b0.set (.string ⟨(textM (signsL us)).toArray⟩)).other (B' := z + 1) (by omega) (.bool true)).kept (grownBy_putObj' _ D (.deferred none)) (by simp; omega)
    have y1 := ((b1.other (B' := z) (by omega) (.string ⟨(textM (signsL us)).toArray⟩)).set (.bool true)).kept (grownBy_putObj' _ D (.deferred none)) (by simp; omega)
    have e0 := y0.cell
    have e1 := y1.cell
    refine ⟨.tuple #[.string ⟨(textM (signsL us)).toArray⟩, .bool true], ?_, ?_, ?_⟩
    · simp [results, Tryz.f37, go_sem, e0, e1]
    · unfold text16
      rw [if_pos HA.out, ← textM_eq _ (signsL_le us HV.out)]
      rfl
    · rw [hz]; exact ((hB.setCell (p := ⟨z, 0, none⟩) (Nat.le_refl _) _).setCell (p := ⟨z + 1, 0, none⟩) (by show z ≤ z + 1; omega) _).trans (belowK_b (n₀ := z) (w := W0) (by omega) _ D _ _ hD hK' rfl rfl)
  case stop =>
    rintro D cd pre W hD hpre ⟨⟨b0, b1, rfl, hall⟩, hB⟩ hK
    have HA := Lib.hid hall
    clear hall
    have hlt : z < D ∧ z + 1 < D := ⟨by omega, by omega⟩
    gi_wp2
    refine ⟨by simp, .inl ⟨_, _, rfl, run_takeDeferred hK, ?_⟩⟩
    have e0 := (b0.kept (grownBy_putObj' _ D (.deferred none)) (by simp; omega)).cell
    have e1 := (b1.kept (grownBy_putObj' _ D (.deferred none)) (by simp; omega)).cell
    refine ⟨.tuple #[.string ⟨#[]⟩, .bool false], ?_, ?_, ?_⟩
    · simp [results, Tryz.f37, go_sem, e0, e1]
    · unfold text16
      rw [if_neg (by
        intro h
        obtain ⟨r, hr⟩ := hpre
        rw [← hr, List.all_append, HA.out] at h
        simp at h)]
      rfl
    · rw [hz]; exact hB.trans (belowK_b (n₀ := z) (w := W0) (by omega) W D _ _ (by omega) hK rfl rfl)
end Go.Proofs.YtibffdaljmmdoaaGreatDoor
/- The walks of Utf and Units, the program's and the reference's. -/
namespace Go.Proofs.YtibffdaljmmdoaaGreatDoor
open Go.RowKit Fo

/-- A string's iterator in block b is put to place p. -/
def itPut (w : World) (b : Nat) (s : ByteArray) (p : Nat) : World := { w with heap := w.heap.setIfInBounds b (.stringIter s p) }
theorem it_next (w : World) (b pos : Nat) (s : ByteArray) (ty : TypeId) (h : w.heap[b]? = some (.stringIter s pos)) (hp : pos < s.size) :
    (Instr.next (.pointer (some ⟨b, 0, none⟩)) true ty).run Tryz.prog w = .ok (.tuple #[.bool true, .int .i64 pos, .int .i32 (Utf8.decode s pos).1]) (itPut w b s (pos + (Utf8.decode s pos).2)) := by
  simp only [Instr.next, getObj, setObj, Sem.run_bind, Sem.run, h, Result.andThen, hp, if_true]
  simp [goInt, Sem.run, h, itPut]
theorem it_end (w : World) (b pos : Nat) (s : ByteArray) (ty : TypeId) (h : w.heap[b]? = some (.stringIter s pos)) (hp : ¬ pos < s.size) :
    (Instr.next (.pointer (some ⟨b, 0, none⟩)) true ty).run Tryz.prog w = .ok (.tuple #[.bool false]) w := by
  simp [Instr.next, getObj, Sem.run, h, hp]
theorem itPut_block (w : World) (b k : Nat) (s : ByteArray) (p : Nat) (hk : k ≠ b) : (itPut w b s p).heap[k]? = w.heap[k]? := by
  unfold itPut; simp only [Array.getElem?_setIfInBounds]; rw [if_neg (by omega)]
theorem itPut_same (w : World) (b : Nat) (s : ByteArray) (p : Nat) (hb : b < w.heap.size) : (itPut w b s p).heap[b]? = some (.stringIter s p) := by
  unfold itPut; simp [Array.getElem?_setIfInBounds, hb]
theorem itPut_size (w : World) (b : Nat) (s : ByteArray) (p : Nat) : (itPut w b s p).heap.size = w.heap.size := by simp [itPut]
theorem itPut_below {B b : Nat} {a w : World} (h : Below B a w) (hB : B ≤ b) (s : ByteArray) (p : Nat) : Below B a (itPut w b s p) :=
  h.trans ⟨rfl, rfl, rfl, by simp [itPut], fun k hk => itPut_block w b k s p (by omega)⟩
theorem ownB_itPut {w : World} {B b : Nat} {v : Value} {l : L} {s s' : ByteArray} {q : Nat} (h : ownB w B v l) (hb : w.heap[b]? = some (.stringIter s' q)) (p : Nat) : ownB (itPut w b s p) B v l := by
  unfold ownB at *
  have hg : w.grownBy (itPut w b s p) (some b) := ⟨rfl, rfl, rfl, by simp [itPut], fun k hk hne => itPut_block w b k s p (fun e => hne (by rw [e]))⟩
  refine World.ownsRow.kept h hg ?_
  rcases h.2 with ⟨h1, h2⟩ | ⟨g, cap, cur, h1, h2, h3, _⟩
  · exact .inl (by rw [h1]; rfl)
  · refine .inr fun e => ?_
    subst h1
    simp [Value.ownBlock] at e
    subst e
    rw [hb] at h3; cases h3
/-- Two bytes are appended to bytes of the call's own. -/
theorem append2 {ops : Array Oper} {rest : List Oper} {o : Oper} {a : Act} {Q : Exit → Act → World → Prop} {w : World} (hgd : o.guard = none) (s x : Operand)
    (ho : o.op = .call { callee := .builtin .append, args := #[s, x], argTypes := #[41, 41] })
    (B : Nat) (v : Value) (l : L) (m n : Int) (hown : ownB w B v l) (hs : a.eval s = v)
    (hx : a.eval x = .slice (some ⟨w.heap.size, 0, none⟩) 2 2) (hlen : l.length + 2 ≤ 140737488355328) (hB : B ≤ w.heap.size) (h0 : 0 ≤ n) (h1 : n < 256) (h2 : 0 ≤ m) (h3 : m < 256)
    (h : ∀ v' w', ownB w' B v' (l ++ [UInt8.ofNat m.toNat, UInt8.ofNat n.toNat]) → Below B w w' → w.heap.size < w'.heap.size → (∀ k o, k < w.heap.size → w.heap[k]? = some o → (∀ cs t f, o = .cells cs t f → t ≠ 5) → w'.heap[k]? = some o) → wpList Tryz.prog ops Q rest (a.put o.dst v') w') :
    wpList Tryz.prog ops Q (o :: rest) a (w.alloc (.cells #[.int .u8 m, .int .u8 n] 5)) := by
  obtain ⟨i0, hi, hz0, hz1, hz2⟩ := info_parts Tryz.infoU8
  refine wpList_append_own _ hgd s x 41 ho B 5 i0 (.int .u8 0) 1 1 Tryz.underlying41 hi hz0 hz1 hz2 rfl (by decide) v l.length _ hs (hown.alloc _) ⟨w.heap.size, 0, none⟩ 2 2 [.int .u8 m, .int .u8 n] hx rfl ?_ ?_ ?_ ?_ ?_ ?_
  · exact World.news_of_block (cs := #[.int .u8 m, .int .u8 n]) (t := 5) (fr := (0, 0)) (heap_alloc_new w _)
  · intro u hu; simp at hu; rcases hu with rfl | rfl <;> rfl
  · unfold maxLen; omega
  · omega
  · simp; omega
  · intro v' w' hown' hg _
    refine h v' w' ?_ (((Below.refl B w).alloc hB _).trans ((Below.refl B _).grown hg (by simp; omega) (own_base hown))) (by have := hg.size; simp at this; omega) ?_
    · have hm : (Value.int .u8 m) = .int .u8 ((UInt8.ofNat m.toNat).toNat : Int) := by rw [u8_back m h2 h3]
      have hn : (Value.int .u8 n) = .int .u8 ((UInt8.ofNat n.toNat).toNat : Int) := by rw [u8_back n h0 h1]
      rw [hm, hn] at hown'
      unfold ownB
      simpa using hown'
    · intro k o hk hko hne
      rw [hg.block k (by simp; omega) ?_, Below.heap_alloc _ _ _ hk]
      · exact hko
      · intro e
        rcases hown.2 with ⟨g1, g2⟩ | ⟨g, cap, cur, g1, g2, g3, _⟩
        · subst g1; simp [Value.ownBlock] at e
        · subst g1
          simp [Value.ownBlock] at e
          subst e
          rw [hko] at g3
          cases g3
          exact hne _ _ _ rfl rfl
theorem ownU_cells {w : World} {B : Nat} {p : Option Addr} {n c : Nat} {us : List Nat} (h : ownU w B (.slice p n c) us) (k : Nat) (hk : k < us.length) :
    ∃ g, p = some ⟨g, 0, none⟩ ∧ g < w.heap.size ∧ w.cell? ⟨g, k, none⟩ = some (.int .u16 (us[k] : Nat)) := by
  obtain ⟨g, h1, _, h3, h4⟩ := ownU_cell h k hk
  exact ⟨g, h1, h3, h4⟩
def UtfR (r : Option L) (e : Ending) : Prop := match r with
  | some x => e = .returned (.tuple #[.string ⟨x.toArray⟩, .int .i64 0])
  | none => e = .returned (.tuple #[.string ⟨#[]⟩, .int .i64 3])
set_option maxRecDepth 100000 in
set_option maxHeartbeats 1000000 in
theorem utf_in (s : ByteArray) (hs : s.size ≤ 1000000000) (w : World) :
    Calls Tryz.prog 17 #[.string s] w fun e w' => UtfR (utfS s.data.toList) e ∧ Below w.heap.size w w' := by
  have HC := Lib.hid (fun W => units_in s (by omega) W)
  have hul := unitsN_len s.data.toList
  have h2 : s.data.toList.length = s.size := by simp
  have HS := Lib.hid (show utfS s.data.toList = if s.size % 2 = 1 then none else text16 (unitsN s.data.toList) by unfold utfS; rw [h2])
  obtain ⟨us, hus⟩ : ∃ us, unitsN s.data.toList = us := ⟨_, rfl⟩
  have HL := Lib.hid (hus ▸ unitsN_lt s.data.toList)
  rw [hus] at HC HS hul
  rw [h2] at hul
  have hul2 : us.length ≤ 1000000000 := by omega
  obtain ⟨T, hT⟩ : ∃ T, text16 us = T := ⟨_, rfl⟩
  have HT := Lib.hid hT
  obtain ⟨U, hU⟩ : ∃ U, utfS s.data.toList = U := ⟨_, rfl⟩
  rw [hU] at HS
  rw [hU]
  rw [hT] at HS
  clear hus h2 hT hU hul
  go_enter Tryz.func17, Tryz.ntmps17
  go_wp2_with fail
  refine (HC.out _).mono ?_
  rintro e w1 ⟨v, rfl, hown, hb1⟩
  obtain ⟨p, c, rfl⟩ := ownU_slice hown
  have HU := Lib.hid (ownU_cells hown)
  clear hown
  go_wp2_with fail
  refine (text16_in p c us HL.out hul2 _ HU.out).mono ?_
  rw [HT.out]
  have hodd : s.size % 2 = 1 ∨ s.size % 2 = 0 := by omega
  rcases T with _ | x
  · rintro e w2 ⟨rfl, hb2⟩
    have HV := Lib.hid (show U = none by rw [HS.out]; split <;> rfl)
    clear HU HS HT
    rcases hodd with h | h
    all_goals
      go_wp2
      go_ret2
      exact ⟨by rw [HV.out]; rfl, hb1.trans (hb2.mono hb1.size)⟩
  · rintro e w2 ⟨rfl, hb2⟩
    clear HU HT
    rcases hodd with h | h
    · have HV := Lib.hid (show U = none by rw [HS.out, if_pos h])
      clear HS
      go_wp2
      go_ret2
      exact ⟨by rw [HV.out]; rfl, hb1.trans (hb2.mono hb1.size)⟩
    · have HV := Lib.hid (show U = some x by rw [HS.out, if_neg (by omega)])
      clear HS
      go_wp2
      go_ret2
      exact ⟨by rw [HV.out]; rfl, hb1.trans (hb2.mono hb1.size)⟩
theorem runes_at {s : ByteArray} {pos : Nat} (h : pos < s.size) : unitsS (s.data.toList.drop pos) = unitsOf (Utf8.decode s pos).1 ++ unitsS (s.data.toList.drop (pos + (Utf8.decode s pos).2)) := by
  have hne : s.data.toList.drop pos ≠ [] := by
    intro h0
    have := congrArg List.length h0
    have h2 : s.data.toList.length = s.size := by simp
    rw [List.length_drop, h2] at this
    simp at this; omega
  unfold unitsS
  rw [runesS_cons hne, Lib.decodeL_drop, List.drop_drop]
  rfl
theorem decode_small (s : ByteArray) (pos : Nat) : (Utf8.decode s pos).1 ≤ 1114111 ∧ 1 ≤ (Utf8.decode s pos).2 ∧ (Utf8.decode s pos).2 ≤ 4 := by
  rw [← Lib.decodeL_drop]
  have h1 := decodeL_scalar (s.data.toList.drop pos)
  have h2 := decodeL_width (s.data.toList.drop pos)
  unfold scalar at h1
  omega
theorem unitB_int (f : Int) (n : Nat) (h : (n : Int) = f) : [UInt8.ofNat (f / 256).toNat, UInt8.ofNat (f % 256).toNat] = unitB n := by
  subst h
  unfold unitB
  have e1 : ((n : Int) / 256).toNat = n / 256 := by omega
  have e2 : UInt8.ofNat ((n : Int) % 256).toNat = UInt8.ofNat n := by
    apply UInt8.toNat_inj.1
    simp only [UInt8.toNat_ofNat']; omega
  rw [e1, e2]
theorem and1023 (x : Int) (h0 : 0 ≤ x) (h1 : x < 2147483648) : bits .and .i32 x 1023 = x % 1024 := bits_mask .i32 31 (by decide) wraps_i32 10 (by decide) x h0 h1
theorem it_pos {w : World} {b pos : Nat} {s : ByteArray} (h : w.heap[b]? = some (.stringIter s pos)) : w.iterPos b = pos := by unfold World.iterPos; rw [h]
theorem it_kept {w w' : World} {b pos : Nat} {s : ByteArray} (h : w.heap[b]? = some (.stringIter s pos)) (hk : ∀ k o, k < w.heap.size → w.heap[k]? = some o → (∀ cs t f, o = .cells cs t f → t ≠ 5) → w'.heap[k]? = some o) : w'.heap[b]? = some (.stringIter s pos) :=
  hk b _ (Array.getElem?_eq_some_iff.1 h).1 h (fun _ _ _ e => by cases e)
set_option maxRecDepth 100000 in
set_option maxHeartbeats 2000000 in
theorem Units_in (s : ByteArray) (hs : s.size ≤ 1000000000) (w : World) :
    Calls Tryz.prog 21 #[.string s] w fun e w' => e = .returned (.string ⟨(unitsS s.data.toList).toArray⟩) ∧ Below w.heap.size w w' := by
  obtain ⟨U, hU⟩ : ∃ U, unitsS s.data.toList = U := ⟨_, rfl⟩
  rw [hU]
  have HU := Lib.hid hU
  clear hU
  go_enter Tryz.func21, Tryz.ntmps21
  go_wp2
  go_loopw [3] (fun v wr => ∃ (pos : Nat) (acc : L), pos ≤ s.size + 3 ∧ wr.heap[w.heap.size]? = some (.stringIter s pos) ∧ Hid (U = acc ++ unitsS (s.data.toList.drop pos)) ∧ Hid (acc.length ≤ 4 * pos) ∧ ownB wr w.heap.size v acc ∧ Below w.heap.size w wr) (fun _ wr => s.size - wr.iterPos w.heap.size)
  case atStart => exact ⟨0, [], by omega, World.iter_heap _ _ _, Lib.hid (by rw [← HU.out]; simp), Lib.hid (by simp), ownB_nil _ _, belowIter (Below.refl _ _) (Nat.le_refl _) _ _⟩
  case round =>
    obtain ⟨pos, acc, hp3, hit, HA, HL, hown, hb⟩ := hrel
    obtain ⟨pv, cv, rfl⟩ := ownB_slice hown
    by_cases hp : pos < s.size
    · have hnx : ∀ ty, (Instr.next (.pointer (some ⟨w.heap.size, 0, none⟩)) true ty).run Tryz.prog wr = _ := fun ty => it_next wr w.heap.size pos s ty hit hp
      have hds := decode_small s pos
      have HR := Lib.hid (runes_at hp)
      obtain ⟨c, hc⟩ : ∃ c, (Utf8.decode s pos).1 = c := ⟨_, rfl⟩
      obtain ⟨k, hk⟩ : ∃ k, (Utf8.decode s pos).2 = k := ⟨_, rfl⟩
      rw [hc, hk] at hds HR
      simp only [hc, hk] at hnx
      have hlt : w.heap.size < wr.heap.size := (Array.getElem?_eq_some_iff.1 hit).1
      obtain ⟨w1, hw1⟩ : ∃ w1, itPut wr w.heap.size s (pos + k) = w1 := ⟨_, rfl⟩
      have hown1 : ownB w1 w.heap.size (.slice pv acc.length cv) acc := hw1 ▸ ownB_itPut hown hit (pos + k)
      have hit1 : w1.heap[w.heap.size]? = some (.stringIter s (pos + k)) := hw1 ▸ itPut_same wr w.heap.size s (pos + k) hlt
      have hb1 : Below w.heap.size w w1 := hw1 ▸ itPut_below hb (Nat.le_refl _) s (pos + k)
      rw [hw1] at hnx
      obtain ⟨r, hr⟩ : ∃ r : Int, (c : Int) = r := ⟨_, rfl⟩
      rw [hr] at hnx
      have r0 : 0 ≤ r := by omega
      have r1 : r ≤ 1114111 := by omega
      have HX := Lib.hid (And.intro hc hk)
      have hpk : pos + k ≤ s.size + 3 := by omega
      have HIP := Lib.hid (show wr.iterPos w.heap.size = pos by unfold World.iterPos; rw [hit])
      have HK1 := Lib.hid hds.2.1
      clear hw1 hown hit hb hc hk hds hlt
      by_cases hbig : 65536 ≤ c
      · have hbz : decide (65536 ≤ r) = true := by simp; omega
        obtain ⟨f, hf⟩ : ∃ f : Int, 55296 + (r - 65536) / 1024 = f := ⟨_, rfl⟩
        obtain ⟨g, hg⟩ : ∃ g : Int, 56320 + (r - 65536) % 1024 = g := ⟨_, rfl⟩
        have ha := and1023 (r - 65536) (by omega) (by omega)
        have HF := Lib.hid (show unitsOf c = [UInt8.ofNat (f / 256).toNat, UInt8.ofNat (f % 256).toNat] ++ [UInt8.ofNat (g / 256).toNat, UInt8.ofNat (g % 256).toNat] by
          rw [unitB_int f (55296 + (c - 65536) / 1024) (by omega), unitB_int g (56320 + (c - 65536) % 1024) (by omega)]
          unfold unitsOf; rw [if_pos hbig])
        have f5 : 0 ≤ f := by omega
        have f6 : f < 65536 := by omega
        have g5 : 0 ≤ g := by omega
        have g6 : g < 65536 := by omega
        clear hbig hr
        have hB1 := hb1.size
        have hl1 : acc.length + 2 ≤ 140737488355328 := by have := HL.out; omega
        obtain ⟨A2, hA2⟩ : ∃ A2, acc ++ [UInt8.ofNat (f / 256).toNat, UInt8.ofNat (f % 256).toNat] = A2 := ⟨_, rfl⟩
        have HA2 := Lib.hid hA2
        have hl2 : A2.length + 2 ≤ 140737488355328 := by have := HL.out; rw [← hA2]; simp; omega
        clear hA2
        have f1 : f / 256 < 256 := by omega
        have f2 : f % 256 < 256 := by omega
        have f3 : 0 ≤ f / 256 := by omega
        have f4 : 0 ≤ f % 256 := by omega
        have g1 : g / 256 < 256 := by omega
        have g2 : g % 256 < 256 := by omega
        have g3 : 0 ≤ g / 256 := by omega
        have g4 : 0 ≤ g % 256 := by omega
        have tok1 : True := trivial
        have tok2 : True := trivial
        go_wp2_with (first | (at_builtin; have _t := tok1; refine append2 rfl _ _ rfl w.heap.size (.slice pv acc.length cv) acc (f / 256) (f % 256) hown1 rfl rfl hl1 hB1 f4 f2 f3 f1 ?_; intro v2 w2 hown2 hb2 hlt2 hkp2; rw [HA2.out] at hown2; have hB2 := Nat.le_trans hB1 (Nat.le_of_lt hlt2); obtain ⟨pv2, cv2, rfl⟩ := ownB_slice hown2; clear tok1) | (at_builtin; have _t := tok2; refine append2 rfl _ _ rfl w.heap.size (.slice pv2 A2.length cv2) A2 (g / 256) (g % 256) hown2 rfl rfl hl2 hB2 g4 g2 g3 g1 ?_; intro v3 w3 hown3 hb3 hlt3 hkp3; clear tok2))
        have hit3 := it_kept (it_kept hit1 hkp2) hkp3
        have HIP3 := Lib.hid (it_pos hit3)
        have HH := Lib.hid (And.intro hit3 (And.intro hown3 (hb1.trans (hb2.trans hb3))))
        clear hit3 hown3 hkp2 hkp3 hown2
        go_roundw
        case rel => exact ⟨pos + k, _, hpk, HH.out.1, Lib.hid (by rw [HA.out, HR.out, HF.out, ← HA2.out]; simp only [List.append_assoc]), Lib.hid (by have := HL.out; have := HK1.out; rw [← HA2.out]; simp; omega), HH.out.2.1, HH.out.2.2⟩
        case measure => rw [HIP.out, HIP3.out]; have := HK1.out; omega
      · have hbz : decide (65536 ≤ r) = false := by simp; omega
        have HF := Lib.hid (show unitsOf c = [UInt8.ofNat (r / 256).toNat, UInt8.ofNat (r % 256).toNat] by
          rw [unitB_int r c hr]
          unfold unitsOf; rw [if_neg hbig])
        have f6 : r < 65536 := by omega
        clear hbig hr
        have hB1 := hb1.size
        have hl1 : acc.length + 2 ≤ 140737488355328 := by have := HL.out; omega
        have f1 : r / 256 < 256 := by omega
        have f2 : r % 256 < 256 := by omega
        have f3 : 0 ≤ r / 256 := by omega
        have f4 : 0 ≤ r % 256 := by omega
        go_wp2_with (at_builtin; refine append2 rfl _ _ rfl w.heap.size (.slice pv acc.length cv) acc (r / 256) (r % 256) hown1 rfl rfl hl1 hB1 f4 f2 f3 f1 ?_; intro v2 w2 hown2 hb2 hlt2 hkp2)
        have hit3 := it_kept hit1 hkp2
        have HIP3 := Lib.hid (it_pos hit3)
        have HH := Lib.hid (And.intro hit3 (And.intro hown2 (hb1.trans hb2)))
        clear hit3 hkp2 hown2
        go_roundw
        case rel => exact ⟨pos + k, _, hpk, HH.out.1, Lib.hid (by rw [HA.out, HR.out, HF.out]; simp only [List.append_assoc]), Lib.hid (by have := HL.out; have := HK1.out; simp; omega), HH.out.2.1, HH.out.2.2⟩
        case measure => rw [HIP.out, HIP3.out]; have := HK1.out; omega
    · have hnx : ∀ ty, (Instr.next (.pointer (some ⟨w.heap.size, 0, none⟩)) true ty).run Tryz.prog wr = _ := fun ty => it_end wr w.heap.size pos s ty hit hp
      have hcv := convB hown
      have HE := Lib.hid (show U = acc by rw [HA.out, List.drop_eq_nil_of_le (by simp; exact Nat.not_lt.1 hp)]; simp [unitsS, runesS, runesF, unitsR])
      go_wp2
      go_ret
      exact ⟨by rw [HE.out]; rfl, hb⟩
end Go.Proofs.YtibffdaljmmdoaaGreatDoor
/- Rows of a mapping: of the call's own, and as an argument. -/
namespace Go.Proofs.YtibffdaljmmdoaaGreatDoor
open Go.RowKit Fo

def mapCells (m : CM) : List Value := m.flatMap fun p => [.int .i64 p.1, .string ⟨p.2.toArray⟩]
theorem mapCells_length (m : CM) : (mapCells m).length = m.length * 2 := by
  induction m with
  | nil => rfl
  | cons p m ih => rw [mapCells, List.flatMap_cons, List.length_append, List.length_cons]; show 2 + (mapCells m).length = _; rw [ih, List.length_cons]; omega
theorem mapCells_at (m : CM) (k : Nat) (hk : k < m.length) : (mapCells m)[2 * k]? = some (.int .i64 (m[k]).1) ∧ (mapCells m)[2 * k + 1]? = some (.string ⟨(m[k]).2.toArray⟩) := by
  induction m generalizing k with
  | nil => exact absurd hk (Nat.not_lt_zero _)
  | cons p m ih =>
    match k with
    | 0 => exact ⟨rfl, rfl⟩
    | k + 1 =>
      have h := ih k (by simpa using hk)
      have e : mapCells (p :: m) = .int .i64 p.1 :: .string ⟨p.2.toArray⟩ :: mapCells m := rfl
      rw [e, show 2 * (k + 1) = 2 * k + 1 + 1 by omega]
      simpa using h
/-- A row of a mapping, of the call's own. -/
def mownS (w : World) (B : Nat) (v : Value) (m : CM) : Prop := w.ownsRow B 44 2 v m.length (mapCells m)
theorem mownS_nil (w : World) (B : Nat) : mownS w B (.slice none 0 0) [] := ⟨by simp [mapCells], .inl ⟨rfl, rfl⟩⟩
theorem mown_slice {w : World} {B n : Nat} {v : Value} {xs : List Value} (h : w.ownsRow B 44 2 v n xs) : ∃ p c, v = .slice p n c := by
  rcases h.2 with ⟨rfl, h0⟩ | ⟨g, cap, cur, rfl, _⟩
  · exact ⟨none, 0, by rw [h0]⟩
  · exact ⟨_, cap, rfl⟩
theorem Tryz.cinfoMap : (Tryz.prog.info? 44).map (fun i => (i.zero, i.size, i.bytes)) = some (some (.agg #[.int .i64 0, .string ⟨#[]⟩]), 2, 24) := by kernel_rfl
theorem mappend {ops : Array Oper} {rest : List Oper} {o : Oper} {a : Act} {Q : Exit → Act → World → Prop} {w : World} (hgd : o.guard = none) (s x : Operand)
    (ho : o.op = .call { callee := .builtin .append, args := #[s, x], argTypes := #[23, 23] })
    (B : Nat) (v : Value) (m : CM) (c : Int) (y : L) (hown : mownS w B v m) (hs : a.eval s = v)
    (hx : a.eval x = .slice (some ⟨w.heap.size, 0, none⟩) 1 1) (hlen : m.length ≤ 1000000000) (hB : B ≤ w.heap.size)
    (h : ∀ p q w', mownS w' B (.slice p (m.length + 1) q) (m ++ [(c, y)]) → Below B w w' → w.heap.size < w'.heap.size → wpList Tryz.prog ops Q rest (a.put o.dst (.slice p (m.length + 1) q)) w') :
    wpList Tryz.prog ops Q (o :: rest) a (w.alloc (.cells #[.int .i64 c, .string ⟨y.toArray⟩] 44)) := by
  obtain ⟨i0, hi, hz0, hz1, hz2⟩ := info_parts Tryz.cinfoMap
  refine wpList_append_own _ hgd s x 23 ho B 44 i0 (.agg #[.int .i64 0, .string ⟨#[]⟩]) 2 24 Tryz.underlying23 hi hz0 hz1 hz2 rfl (by decide) v m.length _ hs (hown.alloc _) ⟨w.heap.size, 0, none⟩ 1 1 [.int .i64 c, .string ⟨y.toArray⟩] hx rfl ?_ ?_ ?_ ?_ ?_ ?_
  · exact World.news_of_block (cs := #[.int .i64 c, .string ⟨y.toArray⟩]) (t := 44) (fr := (0, 0)) (heap_alloc_new w _)
  · intro u hu; simp at hu; rcases hu with rfl | rfl <;> rfl
  · unfold maxLen; omega
  · omega
  · simp; omega
  · intro v' w' hown' hg _
    obtain ⟨p, q, rfl⟩ := mown_slice hown'
    refine h p q w' ?_ (((Below.refl B w).alloc hB _).trans ((Below.refl B _).grown hg (by simp; omega) (own_base hown))) (by have := hg.size; simp at this; omega)
    unfold mownS
    rw [mapCells, List.flatMap_append, List.length_append]
    exact hown'
theorem own_low {w : World} {B B' n k : Nat} {e : TypeId} {v : Value} {xs : List Value} (h : w.ownsRow B' e n v k xs) (hB : B ≤ B') : w.ownsRow B e n v k xs := by
  rcases h with ⟨h0, h1 | ⟨g, cap, cur, h1, h2, h3⟩⟩
  · exact ⟨h0, .inl h1⟩
  · exact ⟨h0, .inr ⟨g, cap, cur, h1, by omega, h3⟩⟩
/-- The value v is a slice that holds a mapping. -/
def MArg (w : World) (v : Value) (m : CM) : Prop := ∃ p c, v = .slice p m.length c ∧ ∀ k (hk : k < m.length), ∃ g off, p = some ⟨g, off, none⟩ ∧ g < w.heap.size ∧
  w.cell? ⟨g, off + k * 2, none⟩ = some (.int .i64 (m[k]).1) ∧ w.cell? ⟨g, off + k * 2 + 1, none⟩ = some (.string ⟨(m[k]).2.toArray⟩)
theorem MArg.below {w w' : World} {v : Value} {m : CM} (h : MArg w v m) (hb : Below w.heap.size w w') : MArg w' v m := by
  obtain ⟨p, c, rfl, h⟩ := h
  refine ⟨p, c, rfl, fun k hk => ?_⟩
  obtain ⟨g, off, h1, h2, h3, h4⟩ := h k hk
  have hz := hb.size
  exact ⟨g, off, h1, by omega, (World.cell?_of_block (hb.block g h2)).trans h3, (World.cell?_of_block (hb.block g h2)).trans h4⟩
theorem mownS.arg {w : World} {B : Nat} {v : Value} {m : CM} (h : mownS w B v m) : MArg w v m := by
  obtain ⟨p, c, rfl⟩ := mown_slice h
  have h0 := h
  rcases h.2 with ⟨h1, h2⟩ | ⟨g, cap, cur, h1, h2, h3, h4, h5, h6, h7⟩
  · exact ⟨p, c, rfl, fun k hk => by omega⟩
  · simp only [Value.slice.injEq] at h1
    obtain ⟨rfl, hl, rfl⟩ := h1
    refine ⟨_, _, rfl, fun k hk => ⟨g, 0, rfl, (Array.getElem?_eq_some_iff.1 h3).1, ?_, ?_⟩⟩
    · have := World.ownsRow.cellAt h0 (k * 2) (by omega)
      rw [Nat.zero_add, this, Nat.mul_comm]; exact (mapCells_at m k hk).1
    · have := World.ownsRow.cellAt h0 (k * 2 + 1) (by omega)
      rw [Nat.zero_add, this, Nat.mul_comm]; exact (mapCells_at m k hk).2
theorem Tryz.cinfoStr : (Tryz.prog.info? 9).map (fun i => (i.zero, i.size, i.bytes)) = some (some (.string ⟨#[]⟩), 1, 16) := by kernel_rfl
def strV (l : L) : Value := .string ⟨l.toArray⟩
/-- The slice v is the call's own and holds the strings ss. -/
def cownS (w : World) (B : Nat) (v : Value) (ss : List L) : Prop := w.ownsRow B 9 1 v ss.length (ss.map strV)
theorem cownS_nil (w : World) (B : Nat) : cownS w B (.slice none 0 0) [] := ⟨by simp, .inl ⟨rfl, rfl⟩⟩
theorem cownS_below {w w' : World} {B : Nat} {v : Value} {ss : List L} (h : cownS w B v ss) (hb : Below w.heap.size w w') : cownS w' B v ss :=
  World.ownsRow.kept h (row := none) ⟨hb.os, hb.tape, hb.output, hb.size, fun k hk _ => hb.block k hk⟩ (Classical.em _)
end Go.Proofs.YtibffdaljmmdoaaGreatDoor
