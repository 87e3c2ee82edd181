/- The reference's reader of a mapping: a row, whatever its token. -/
import Derived.Test.YtibffdaljmmdoaaGreatDoorCqG
set_option linter.all false
namespace Go.Proofs.YtibffdaljmmdoaaGreatDoor
open Go.RowKit Fo Go.Maps

set_option maxRecDepth 100000 in
set_option maxHeartbeats 1000000 in
theorem rrow_err (B r : Nat) (k : Int) (x y : Int) (k0 k1 k2 k3 : Int) (s4 : ByteArray) (w : World) (hE : RE B w r k) :
    Calls Tryz.prog 54 #[.pointer (some ⟨r, 0, none⟩), .int .i64 x, .int .i64 y, .agg #[.int .i64 k0, .int .i64 k1, .int .i64 k2, .int .i64 k3, .string s4]] w fun e w' => e = .returned (.tuple #[]) ∧ RE B w' r k ∧ Fq B w w' := by
  obtain ⟨hc5, hf5⟩ := hE.cell5
  have hlt := hE.lt
  have hk : (k == 0) = false := by simpa using hE.2.1
  have hk2 : (k != 0) = true := by simpa using hE.2.1
  have hE1 := Lib.hid (hE.alloc (.cells #[.int .i64 k0, .int .i64 k1, .int .i64 k2, .int .i64 k3, .string s4] 59))
  go_enter Tryz.func54, Tryz.ntmps54
  go_wp2
  refine bodyPost_ret (results_none rfl _ _ _) rfl ?_
  exact ⟨by first | rfl | trivial, hE1.out, (Fq.refl _ _).alloc _⟩
/-- A row's texts, in the plain. -/
def rowT (x y : Int) (σ : CS) (t : Tok) (l : L) : Res (CS × L) :=
  if t.kind = 6 ∧ t.s = [91] then listC x y σ (sevC (l.length + 1) l []) else behindC l (risingC σ t x (y - x + 1).toNat)
theorem rrow_in (B r : Nat) (s : ByteArray) (a p q : Nat) (σ : CS) (t : Tok) (x y : Int) (hx : 0 ≤ x) (hxy : x ≤ y) (hy : y ≤ 65535) (htl : t.s.length ≤ 1000000) (ha : a ≤ s.size) (hs : s.size ≤ 1000000)
    (w : World) (hS : RS B w r s a σ) :
    Calls Tryz.prog 54 #[.pointer (some ⟨r, 0, none⟩), .int .i64 x, .int .i64 y, .agg #[.int .i64 t.kind, .int .i64 p, .int .i64 q, .int .i64 t.n, .string ⟨t.s.toArray⟩]] w (RowQ B r s w (rowT x y σ t (s.data.toList.drop a))) := by
  have hB : B ≤ w.heap.size := Nat.le_trans hS.base (Nat.le_of_lt hS.lt)
  obtain ⟨N, hN⟩ : ∃ N : Nat, y - x = (N : Int) := ⟨(y - x).toNat, by omega⟩
  have eN : (y - x + 1).toNat = N + 1 := by omega
  obtain ⟨kd, ln, n0, ts⟩ := t
  unfold rowT
  dsimp only at htl ⊢
  by_cases hm : kd = 6 ∧ ts = [91]
  · rw [if_pos hm]
    obtain ⟨rfl, rfl⟩ := hm
    exact rrow_list B r s a p q n0 σ x y N hx hy hN ha hs _ (by rw [List.length_drop]; simp) w hS hB
  · rw [if_neg hm, eN]
    refine (rrow_rise B r s a p q n0 σ kd ts ln x y N hx hy hN htl hm w hS hB (Lib.hid fun W hW => rtext_in B r s a p q σ ⟨kd, ln, n0, ts⟩ W hW htl)).mono ?_
    intro e w' h
    cases hR : risingC σ ⟨kd, ln, n0, ts⟩ x (N + 1) with
    | bad k => rw [hR] at h; exact h
    | good σ' => rw [hR] at h; exact ⟨h.1, ⟨a, ha, rfl, h.2.1⟩, h.2.2⟩
/-- A row of ranges, in the plain: as the reference goes through it. -/
theorem rowC_two {t : Tok} {l : L} {σ : CS} : rowC 2 t l σ = match spanC σ t l with
    | .bad k => .bad k
    | .good (σ1, a, b, r) => match nextS r with
      | .bad k => .bad k
      | .good (t2, r2) => rowT a b σ1 t2 r2 := by
  unfold rowC
  rw [if_neg (by decide)]
  cases spanC σ t l with
  | bad k => rfl
  | good y =>
    obtain ⟨σ1, a, b, r⟩ := y
    dsimp only
    rw [if_neg (by decide)]
    cases nextS r with
    | bad k => rfl
    | good z =>
      obtain ⟨t2, r2⟩ := z
      dsimp only
      unfold rowT
      by_cases h : t2.kind = 6 ∧ t2.s = [91]
      · rw [if_pos h, if_pos h]
        unfold listC
        cases sevC (r2.length + 1) r2 [] with
        | bad k => rfl
        | good u =>
          obtain ⟨xs, r3⟩ := u
          dsimp only
          by_cases h2 : (xs.length : Int) = b - a + 1
          · rw [if_pos h2, if_pos h2]; cases tellAllC a xs σ1 <;> rfl
          · rw [if_neg h2, if_neg h2]
      · rw [if_neg h, if_neg h]; cases risingC σ1 t2 a (b - a + 1).toNat <;> rfl
end Go.Proofs.YtibffdaljmmdoaaGreatDoor
