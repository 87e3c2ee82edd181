/- The walk of the statement on the parts of a text. -/
import Derived.Test.YtpadlepdgnlgnaaGreatDoorMay
set_option linter.all false
namespace Go.Proofs.YtpadlepdgnlgnaaGreatDoor
open Go.RowKit Fo

def addR (a : Nat) (acc : List Ob) : Mres → Mres
  | .all os => .all (acc ++ os)
  | .fault p k => .fault (a + p) k
theorem manyS_shift : ∀ (n n' a b : Nat) (l : L) (acc acc' : List Ob), l.length < n → l.length < n' → acc.length + acc'.length + l.length < 8191 → manyS n (a + b) l (acc ++ acc') = addR a acc (manyS n' b l acc')
  | 0, _, _, _, _, _, _, h, _, _ => by omega
  | _ + 1, 0, _, _, _, _, _, _, h, _ => by omega
  | n + 1, n' + 1, a, b, l, acc, acc', h1, h2, h3 => by
    rw [manyS, manyS]
    cases hn : (nextT l).2 with
    | bad e => simp only [addR]; rw [Nat.add_assoc]
    | good t =>
      dsimp only
      by_cases hk : t.kind = 0
      · rw [if_pos hk, if_pos hk]; rfl
      · rw [if_neg hk, if_neg hk, if_neg (by simp; omega), if_neg (by omega)]
        cases hR : readS l with
        | bad e => simp only [addR]; rw [Nat.add_assoc]
        | good x =>
          obtain ⟨o, r⟩ := x
          have hr := (readS_ok hR).2.2
          have := manyS_shift n n' a (b + (l.length - r.length)) r acc (acc' ++ [o]) (by omega) (by omega) (by simp; omega)
          dsimp only
          rw [← this, List.append_assoc, Nat.add_assoc]
theorem readS_tok {l r : L} {o : Ob} (h : readS l = .good (o, r)) : ∃ t, (nextT l).2 = .good t ∧ t.kind ≠ 0 := by
  unfold readS at h
  split at h
  · cases h
  · rename_i t r1 h1
    obtain ⟨h2, h3, _⟩ := nextS_good h1
    exact ⟨t, h2, h3⟩
theorem manyS_first {n : Nat} {l r : L} {o : Ob} (h : readS l = .good (o, r)) (hn : l.length ≤ n) (h9 : l.length < 8000) : manyS (n + 1) 0 l [] = addR (l.length - r.length) [o] (manyS (r.length + 1) 0 r []) := by
  obtain ⟨t, h1, h2⟩ := readS_tok h
  have hr := (readS_ok h).2.2
  rw [manyS, h1]
  dsimp only
  rw [if_neg h2, if_neg (by simp), h]
  dsimp only
  have := manyS_shift n (r.length + 1) (l.length - r.length) 0 r [o] [] (by omega) (by omega) (by simp; omega)
  rw [← this]; simp
theorem manyS_bad {n : Nat} {l : L} {k : Int} (h : readS l = .bad k) : (∃ p, manyS (n + 1) 0 l [] = .fault p k) ∨ (k = 4 ∧ manyS (n + 1) 0 l [] = .all []) := by
  rw [manyS]
  cases hn : (nextT l).2 with
  | bad e =>
    have : readS l = .bad e := by unfold readS nextS; rw [hn]
    rw [this] at h; cases h
    exact .inl ⟨_, rfl⟩
  | good t =>
    dsimp only
    by_cases hk : t.kind = 0
    · have : readS l = .bad 4 := by unfold readS nextS; rw [hn]; dsimp only; rw [if_pos hk]
      rw [this] at h; cases h
      exact .inr ⟨rfl, by rw [if_pos hk]⟩
    · rw [if_neg hk, if_neg (by simp), h]
      exact .inl ⟨_, rfl⟩
theorem manyS_codes : ∀ (n a : Nat) (l : L) (acc : List Ob) (p : Nat) (k : Int), l.length < n → manyS n a l acc = .fault p k → 2 ≤ k ∧ k ≤ 9
  | 0, _, _, _, _, _, h, _ => by omega
  | n + 1, a, l, acc, p, k, hl, h => by
    rw [manyS] at h
    cases hn : (nextT l).2 with
    | bad e => rw [hn] at h; cases h; have := nextT_bad hn; omega
    | good t =>
      rw [hn] at h
      dsimp only at h
      by_cases hk : t.kind = 0
      · rw [if_pos hk] at h; cases h
      · rw [if_neg hk] at h
        split at h
        · cases h; omega
        · cases hR : readS l with
          | bad e => rw [hR] at h; cases h; exact readS_codes hR
          | good x =>
            obtain ⟨o, r⟩ := x
            rw [hR] at h
            have := (readS_ok hR).2.2
            exact manyS_codes n _ r _ p k (by omega) h
theorem manyS_le : ∀ (n a : Nat) (l : L) (acc : List Ob) (p : Nat) (k : Int), manyS n a l acc = .fault p k → p ≤ a + l.length
  | 0, _, _, _, _, _, h => by cases h; omega
  | n + 1, a, l, acc, p, k, h => by
    have hs := skipN_le false l
    rw [manyS] at h
    cases hn : (nextT l).2 with
    | bad e => rw [hn] at h; cases h; omega
    | good t =>
      rw [hn] at h
      dsimp only at h
      by_cases hk : t.kind = 0
      · rw [if_pos hk] at h; cases h
      · rw [if_neg hk] at h
        split at h
        · cases h; omega
        · cases hR : readS l with
          | bad e => rw [hR] at h; cases h; omega
          | good x =>
            obtain ⟨o, r⟩ := x
            rw [hR] at h
            have := (readS_ok hR).2.2
            have := manyS_le n _ r _ p k h
            omega
theorem many_cons {W w' : World} {o : Ob} {os : List Ob} {e : Ending} (h : ManyPost W (.all (o :: os)) e w') : ∃ b off c, e = .returned (.tuple #[.slice (some ⟨b, off, none⟩) (os.length + 1) c, .agg #[.int .i64 0, .int .i64 0]]) ∧ os.length + 1 ≤ c ∧ RowAt (fun b => W.heap.size ≤ b) 25 w' (.slice (some ⟨b, off, none⟩) (os.length + 1) c) (o :: os) ∧ W.heap.size ≤ b ∧ Below W.heap.size W w' := by
  obtain ⟨p, c, rfl, h1, h2, h3, h4⟩ := h
  have h2' := h2
  rcases h2 with ⟨h2, _⟩ | ⟨b, off, c', h5, h6, h7⟩
  · cases h2
  · cases h5
    exact ⟨_, _, _, rfl, h1, h2', h6, h4⟩
theorem many_as (x : ByteArray) (l : L) (T : Mres) (h : x.data.toList = l) (hT : manyS (l.length + 1) 0 l [] = T) (hx : l.length ≤ 140737488355327) (m : Int) (w : World) (hm : MaxW w m) : Calls Tryz.prog 13 #[.string x] w (ManyPost w T) := by
  have := Many_in x (by rw [← h] at hx; exact hx) m w hm
  rw [show x.size = l.length by rw [← h]; rfl, h, hT] at this
  exact this
set_option maxHeartbeats 400000 in
theorem same06 (S : Nat → Prop) (d : Nat) (va vb : Value) (os : List Ob) (w : World) (hl : os.length ≤ 140737488355328) (hsm : ∀ o ∈ os, smallO d o) (ha : RowAt S d w va os) (hb : RowAt S d w vb os) (hS : ∀ b, S b → b < w.heap.size) :
    Calls Tryz.prog 16 #[va, vb] w fun e w' => e = .returned (.bool true) ∧ Below w.heap.size w w' := by
  have HL := Lib.hid (list_in S d (same_in S d) va vb os w hl hsm ha hb hS)
  clear ha hb hS
  go_enter Tryz.func16, Tryz.ntmps16
  go_wp2_with fail
  refine HL.out.mono ?_
  rintro e w1 ⟨rfl, hb1⟩
  go_wp2
  go_ret
  exact ⟨rfl, hb1⟩
/-- What has been read of a text: every object is small. -/
theorem manyS_small : ∀ (n a : Nat) (l : L) (acc os : List Ob), manyS n a l acc = .all os → (∀ o ∈ acc, smallO 25 o) → ∀ o ∈ os, smallO 25 o
  | 0, _, _, _, _, h, _ => by cases h
  | n + 1, a, l, acc, os, h, ha => by
    rw [manyS] at h
    cases hn : (nextT l).2 with
    | bad e => rw [hn] at h; cases h
    | good t =>
      rw [hn] at h
      dsimp only at h
      by_cases hk : t.kind = 0
      · rw [if_pos hk] at h; cases h; exact ha
      · rw [if_neg hk] at h
        split at h
        · cases h
        · cases hR : readS l with
          | bad e => rw [hR] at h; cases h
          | good x =>
            obtain ⟨o, r⟩ := x
            rw [hR] at h
            refine manyS_small n _ r _ os h ?_
            intro y hy
            rw [List.mem_append] at hy
            rcases hy with hy | hy
            · exact ha y hy
            · simp only [List.mem_singleton] at hy; subst hy; exact (readS_small hR).1
theorem row_tail {S : Nat → Prop} {d : Nat} {w : World} {b off n c c' : Nat} {o : Ob} {os : List Ob} (h : RowAt S d w (.slice (some ⟨b, off, none⟩) n c) (o :: os)) : RowAt S d w (.slice (some ⟨b, off + 6, none⟩) os.length c') os := by
  rcases h with ⟨h, _⟩ | ⟨b', off', c'', h1, h2, h3⟩
  · cases h
  · cases h1
    refine .inr ⟨b, off + 6, c', rfl, h2, fun i hi => ?_⟩
    obtain ⟨ks, g1, g2, g3⟩ := h3 (i + 1) (by simp; omega)
    exact ⟨ks, g1, fun j hj => by rw [show off + 6 + 6 * i + j = off + 6 * (i + 1) + j by omega]; exact g2 j hj, by simpa using g3⟩
theorem six_keep0 {B b : Nat} {w w1 : World} {v0 v1 v2 v3 v4 v5 : Value} (hb : Below B w w1) (hl : b < B)
    (h : w.cell? ⟨b, 0, none⟩ = some v0 ∧ w.cell? ⟨b, 1, none⟩ = some v1 ∧ w.cell? ⟨b, 2, none⟩ = some v2 ∧ w.cell? ⟨b, 3, none⟩ = some v3 ∧ w.cell? ⟨b, 4, none⟩ = some v4 ∧ w.cell? ⟨b, 5, none⟩ = some v5) :
    w1.cell? ⟨b, 0, none⟩ = some v0 ∧ w1.cell? ⟨b, 1, none⟩ = some v1 ∧ w1.cell? ⟨b, 2, none⟩ = some v2 ∧ w1.cell? ⟨b, 3, none⟩ = some v3 ∧ w1.cell? ⟨b, 4, none⟩ = some v4 ∧ w1.cell? ⟨b, 5, none⟩ = some v5 := by
  obtain ⟨h0, h1, h2, h3, h4, h5⟩ := h
  refine ⟨?_, ?_, ?_, ?_, ?_, ?_⟩ <;> (refine (hb.cell hl).trans ?_; assumption)
theorem row_head {S : Nat → Prop} {d : Nat} {w : World} {b off n c : Nat} {o : Ob} {os : List Ob} (h : RowAt S d w (.slice (some ⟨b, off, none⟩) n c) (o :: os)) :
    ∃ (p1 : Option Addr) (n1 c1 : Nat) (p2 : Option Addr) (n2 c2 : Nat), b < w.heap.size ∧ ObjAt S d w (objCells o.kind o.n o.g o.s (.slice p1 n1 c1) (.slice p2 n2 c2)) o ∧
      w.cell? ⟨b, off, none⟩ = some (.int .i64 o.kind) ∧ w.cell? ⟨b, off + 1, none⟩ = some (.int .i64 o.n) ∧ w.cell? ⟨b, off + 2, none⟩ = some (.int .i64 o.g) ∧
      w.cell? ⟨b, off + 3, none⟩ = some (.string ⟨o.s.toArray⟩) ∧ w.cell? ⟨b, off + 4, none⟩ = some (.slice p1 n1 c1) ∧ w.cell? ⟨b, off + 5, none⟩ = some (.slice p2 n2 c2) := by
  have hn : (o :: os).length = n := by
    rcases h with ⟨h, _⟩ | ⟨b', off', c', h1, _⟩
    · cases h
    · cases h1; rfl
  obtain ⟨x, p1, n1, c1, p2, n2, c2, hx, _, _, O, f0, f1, f2, f3, f4, f5⟩ := row_kid h hn 0 (by rw [← hn]; simp)
  obtain rfl : o = x := hx
  refine ⟨p1, n1, c1, p2, n2, c2, ?_, O, by simpa using f0, by simpa using f1, by simpa using f2, by simpa using f3, by simpa using f4, by simpa using f5⟩
  apply Classical.byContradiction; intro hn
  simp [World.cell?, Array.getElem?_eq_none (Nat.not_lt.1 hn)] at f0
theorem two_keep {B b : Nat} {w w1 : World} {v0 v1 : Value} (hb : Below B w w1) (hl : b < B) (h : w.cell? ⟨b, 0, none⟩ = some v0 ∧ w.cell? ⟨b, 1, none⟩ = some v1) : w1.cell? ⟨b, 0, none⟩ = some v0 ∧ w1.cell? ⟨b, 1, none⟩ = some v1 :=
  ⟨(hb.cell hl).trans h.1, (hb.cell hl).trans h.2⟩
set_option maxRecDepth 100000 in
set_option maxHeartbeats 1000000 in
theorem parts_long (s : ByteArray) (h3 : 3000 < s.size) (m : Int) (w : World) (hm : MaxW w m) :
    Calls Tryz.prog 6 #[.string s] w fun e w' => e = .returned (.bool true) ∧ Below w.heap.size w w' := by
  have HL := Lib.hid (fun W hm => lives_in m W hm)
  go_enter Tryz.func6, Tryz.ntmps6
  go_wp2_with fail
  refine (HL.out _ (hm.below (by repeat' (first | (with_reducible exact Below.refl _ _) | (with_reducible refine Below.drew ?_) | (with_reducible refine belowDrewN ?_ _) | (with_reducible refine belowIter ?_ ?_ _ _) | (with_reducible refine Below.setCell ?_ ?_ _) | (with_reducible refine Below.alloc ?_ ?_ _) | (with_reducible refine Below.trans ?_ (Below.mono hb4 ?_)) | (with_reducible refine Below.trans ?_ (Below.mono hb3 ?_)) | (with_reducible refine Below.trans ?_ (Below.mono hb2 ?_)) | (with_reducible refine Below.trans ?_ (Below.mono hb1 ?_)) | (with_reducible refine Below.trans ?_ (Below.mono hbr ?_)) | (with_reducible refine Below.trans ?_ (Below.mono hb ?_)) | (simp; done) | (simp; omega) | omega)))).mono ?_
  rintro e w1 ⟨rfl, hb1⟩
  go_wp2
  go_ret
  exact ⟨rfl, (by repeat' (first | (with_reducible exact Below.refl _ _) | (with_reducible refine Below.drew ?_) | (with_reducible refine belowDrewN ?_ _) | (with_reducible refine belowIter ?_ ?_ _ _) | (with_reducible refine Below.setCell ?_ ?_ _) | (with_reducible refine Below.alloc ?_ ?_ _) | (with_reducible refine Below.trans ?_ (Below.mono hb4 ?_)) | (with_reducible refine Below.trans ?_ (Below.mono hb3 ?_)) | (with_reducible refine Below.trans ?_ (Below.mono hb2 ?_)) | (with_reducible refine Below.trans ?_ (Below.mono hb1 ?_)) | (with_reducible refine Below.trans ?_ (Below.mono hbr ?_)) | (with_reducible refine Below.trans ?_ (Below.mono hb ?_)) | (simp; done) | (simp; omega) | omega))⟩
set_option maxRecDepth 100000 in
set_option maxHeartbeats 1000000 in
theorem parts_bad (s : ByteArray) (h3 : ¬ 3000 < s.size) (m : Int) (w : World) (hm : MaxW w m) (k : Int) (hR : readS s.data.toList = .bad k) :
    Calls Tryz.prog 6 #[.string s] w fun e w' => e = .returned (.bool true) ∧ Below w.heap.size w w' := by
  have HL := Lib.hid (fun W hm => lives_in m W hm)
  have hs : s.size ≤ 140737488355327 := by omega
  have HOB := Lib.hid (fun W hm => Object_zero s hs m W hm)
  rw [hR] at HOB
  have hk00 := readS_codes hR
  have hk0 : (k != 0) = true := by simp; omega
  rcases manyS_bad (n := s.size) hR with ⟨p, hM⟩ | ⟨rfl, hM⟩
  · have HMY := Lib.hid (fun W hm => many_as s _ _ rfl hM hs m W hm)
    clear hR hM
    go_enter Tryz.func6, Tryz.ntmps6
    go_wp2_with fail
    refine (HOB.out _ (hm.below (by repeat' (first | (with_reducible exact Below.refl _ _) | (with_reducible refine Below.drew ?_) | (with_reducible refine belowDrewN ?_ _) | (with_reducible refine belowIter ?_ ?_ _ _) | (with_reducible refine Below.setCell ?_ ?_ _) | (with_reducible refine Below.alloc ?_ ?_ _) | (with_reducible refine Below.trans ?_ (Below.mono hb4 ?_)) | (with_reducible refine Below.trans ?_ (Below.mono hb3 ?_)) | (with_reducible refine Below.trans ?_ (Below.mono hb2 ?_)) | (with_reducible refine Below.trans ?_ (Below.mono hb1 ?_)) | (with_reducible refine Below.trans ?_ (Below.mono hbr ?_)) | (with_reducible refine Below.trans ?_ (Below.mono hb ?_)) | (simp; done) | (simp; omega) | omega)))).mono ?_
    rintro e w1 ⟨rfl, hb1⟩
    have m1 := hm.below hb1
    have hz1 := hb1.size
    go_wp2_with fail
    refine (HMY.out _ (m1.below (by repeat' (first | (with_reducible exact Below.refl _ _) | (with_reducible refine Below.drew ?_) | (with_reducible refine belowDrewN ?_ _) | (with_reducible refine belowIter ?_ ?_ _ _) | (with_reducible refine Below.setCell ?_ ?_ _) | (with_reducible refine Below.alloc ?_ ?_ _) | (with_reducible refine Below.trans ?_ (Below.mono hb4 ?_)) | (with_reducible refine Below.trans ?_ (Below.mono hb3 ?_)) | (with_reducible refine Below.trans ?_ (Below.mono hb2 ?_)) | (with_reducible refine Below.trans ?_ (Below.mono hb1 ?_)) | (with_reducible refine Below.trans ?_ (Below.mono hbr ?_)) | (with_reducible refine Below.trans ?_ (Below.mono hb ?_)) | (simp; done) | (simp; omega) | omega)))).mono ?_
    rintro e w2 ⟨rfl, hb2⟩
    have m2 := maxStep m1 hb2
    have hz2 := sizeStep hb2
    go_wp2_with fail
    refine (HL.out _ (m2.below (by repeat' (first | (with_reducible exact Below.refl _ _) | (with_reducible refine Below.drew ?_) | (with_reducible refine belowDrewN ?_ _) | (with_reducible refine belowIter ?_ ?_ _ _) | (with_reducible refine Below.setCell ?_ ?_ _) | (with_reducible refine Below.alloc ?_ ?_ _) | (with_reducible refine Below.trans ?_ (Below.mono hb4 ?_)) | (with_reducible refine Below.trans ?_ (Below.mono hb3 ?_)) | (with_reducible refine Below.trans ?_ (Below.mono hb2 ?_)) | (with_reducible refine Below.trans ?_ (Below.mono hb1 ?_)) | (with_reducible refine Below.trans ?_ (Below.mono hbr ?_)) | (with_reducible refine Below.trans ?_ (Below.mono hb ?_)) | (simp; done) | (simp; omega) | omega)))).mono ?_
    rintro e w3 ⟨rfl, hb3⟩
    go_wp2
    go_ret
    exact ⟨rfl, (by repeat' (first | (with_reducible exact Below.refl _ _) | (with_reducible refine Below.drew ?_) | (with_reducible refine belowDrewN ?_ _) | (with_reducible refine belowIter ?_ ?_ _ _) | (with_reducible refine Below.setCell ?_ ?_ _) | (with_reducible refine Below.alloc ?_ ?_ _) | (with_reducible refine Below.trans ?_ (Below.mono hb4 ?_)) | (with_reducible refine Below.trans ?_ (Below.mono hb3 ?_)) | (with_reducible refine Below.trans ?_ (Below.mono hb2 ?_)) | (with_reducible refine Below.trans ?_ (Below.mono hb1 ?_)) | (with_reducible refine Below.trans ?_ (Below.mono hbr ?_)) | (with_reducible refine Below.trans ?_ (Below.mono hb ?_)) | (simp; done) | (simp; omega) | omega))⟩
  · have HMY := Lib.hid (fun W hm => many_as s _ _ rfl hM hs m W hm)
    clear hR hM
    go_enter Tryz.func6, Tryz.ntmps6
    go_wp2_with fail
    refine (HOB.out _ (hm.below (by repeat' (first | (with_reducible exact Below.refl _ _) | (with_reducible refine Below.drew ?_) | (with_reducible refine belowDrewN ?_ _) | (with_reducible refine belowIter ?_ ?_ _ _) | (with_reducible refine Below.setCell ?_ ?_ _) | (with_reducible refine Below.alloc ?_ ?_ _) | (with_reducible refine Below.trans ?_ (Below.mono hb4 ?_)) | (with_reducible refine Below.trans ?_ (Below.mono hb3 ?_)) | (with_reducible refine Below.trans ?_ (Below.mono hb2 ?_)) | (with_reducible refine Below.trans ?_ (Below.mono hb1 ?_)) | (with_reducible refine Below.trans ?_ (Below.mono hbr ?_)) | (with_reducible refine Below.trans ?_ (Below.mono hb ?_)) | (simp; done) | (simp; omega) | omega)))).mono ?_
    rintro e w1 ⟨rfl, hb1⟩
    have m1 := hm.below hb1
    have hz1 := hb1.size
    go_wp2_with fail
    refine (HMY.out _ (m1.below (by repeat' (first | (with_reducible exact Below.refl _ _) | (with_reducible refine Below.drew ?_) | (with_reducible refine belowDrewN ?_ _) | (with_reducible refine belowIter ?_ ?_ _ _) | (with_reducible refine Below.setCell ?_ ?_ _) | (with_reducible refine Below.alloc ?_ ?_ _) | (with_reducible refine Below.trans ?_ (Below.mono hb4 ?_)) | (with_reducible refine Below.trans ?_ (Below.mono hb3 ?_)) | (with_reducible refine Below.trans ?_ (Below.mono hb2 ?_)) | (with_reducible refine Below.trans ?_ (Below.mono hb1 ?_)) | (with_reducible refine Below.trans ?_ (Below.mono hbr ?_)) | (with_reducible refine Below.trans ?_ (Below.mono hb ?_)) | (simp; done) | (simp; omega) | omega)))).mono ?_
    rintro e w2 ⟨p, c, rfl, hcap, hRow, hl, hb2⟩
    clear hRow hcap hl
    dsimp only [List.length_nil]
    have m2 := maxStep m1 hb2
    have hz2 := sizeStep hb2
    go_wp2_with fail
    refine (HL.out _ (m2.below (by repeat' (first | (with_reducible exact Below.refl _ _) | (with_reducible refine Below.drew ?_) | (with_reducible refine belowDrewN ?_ _) | (with_reducible refine belowIter ?_ ?_ _ _) | (with_reducible refine Below.setCell ?_ ?_ _) | (with_reducible refine Below.alloc ?_ ?_ _) | (with_reducible refine Below.trans ?_ (Below.mono hb4 ?_)) | (with_reducible refine Below.trans ?_ (Below.mono hb3 ?_)) | (with_reducible refine Below.trans ?_ (Below.mono hb2 ?_)) | (with_reducible refine Below.trans ?_ (Below.mono hb1 ?_)) | (with_reducible refine Below.trans ?_ (Below.mono hbr ?_)) | (with_reducible refine Below.trans ?_ (Below.mono hb ?_)) | (simp; done) | (simp; omega) | omega)))).mono ?_
    rintro e w3 ⟨rfl, hb3⟩
    go_wp2
    go_ret
    exact ⟨rfl, (by repeat' (first | (with_reducible exact Below.refl _ _) | (with_reducible refine Below.drew ?_) | (with_reducible refine belowDrewN ?_ _) | (with_reducible refine belowIter ?_ ?_ _ _) | (with_reducible refine Below.setCell ?_ ?_ _) | (with_reducible refine Below.alloc ?_ ?_ _) | (with_reducible refine Below.trans ?_ (Below.mono hb4 ?_)) | (with_reducible refine Below.trans ?_ (Below.mono hb3 ?_)) | (with_reducible refine Below.trans ?_ (Below.mono hb2 ?_)) | (with_reducible refine Below.trans ?_ (Below.mono hb1 ?_)) | (with_reducible refine Below.trans ?_ (Below.mono hbr ?_)) | (with_reducible refine Below.trans ?_ (Below.mono hb ?_)) | (simp; done) | (simp; omega) | omega))⟩
set_option maxRecDepth 100000 in
set_option maxHeartbeats 1000000 in
theorem parts_fault (s : ByteArray) (h3 : ¬ 3000 < s.size) (m : Int) (w : World) (hm : MaxW w m) (o : Ob) (rest : L) (hR : readS s.data.toList = .good (o, rest)) (p : Nat) (k : Int) (hT : manyS (rest.length + 1) 0 rest [] = .fault p k) :
    Calls Tryz.prog 6 #[.string s] w fun e w' => e = .returned (.bool true) ∧ Below w.heap.size w w' := by
  have HL := Lib.hid (fun W hm => lives_in m W hm)
  have hs : s.size ≤ 140737488355327 := by omega
  have HOB := Lib.hid (fun W hm => Object_zero s hs m W hm)
  rw [hR] at HOB
  have hk00 := manyS_codes _ _ _ _ _ _ (by omega) hT
  have hk0 : (k != 0) = true := by simp; omega
  have hle := manyS_le _ _ _ _ _ _ hT
  have hrl := (readS_ok hR).2.2
  have hpz : p ≤ 3000 := by have : s.data.toList.length = s.size := rfl; omega
  clear hle hrl
  have hF := manyS_first (n := s.size) hR (Nat.le_refl _) (by show s.size < 8000; omega)
  rw [hT] at hF
  have HMZ := Lib.hid (fun (z : Nat) (hz : rest = s.data.toList.drop z) (hz1 : z ≤ s.size) W hm => many_as s s.data.toList (.fault (z + p) k) rfl (by
    have h1 : s.data.toList.length - rest.length = z := by rw [hz, List.length_drop]; have : s.data.toList.length = s.size := rfl; omega
    rw [h1] at hF; exact hF) hs m W hm)
  have HM2 := Lib.hid (fun (z : Nat) (hz : rest = s.data.toList.drop z) (hz1 : z ≤ s.size) W hm => many_as (s.extract z s.size) rest (.fault p k) (by rw [hz]; exact Lib.extract_to_end _ _) hT (by rw [hz, List.length_drop]; have : s.data.toList.length = s.size := rfl; omega) m W hm)
  clear hR hT hF
  go_enter Tryz.func6, Tryz.ntmps6
  go_wp2_with fail
  refine (HOB.out _ (hm.below (by repeat' (first | (with_reducible exact Below.refl _ _) | (with_reducible refine Below.drew ?_) | (with_reducible refine belowDrewN ?_ _) | (with_reducible refine belowIter ?_ ?_ _ _) | (with_reducible refine Below.setCell ?_ ?_ _) | (with_reducible refine Below.alloc ?_ ?_ _) | (with_reducible refine Below.trans ?_ (Below.mono hb4 ?_)) | (with_reducible refine Below.trans ?_ (Below.mono hb3 ?_)) | (with_reducible refine Below.trans ?_ (Below.mono hb2 ?_)) | (with_reducible refine Below.trans ?_ (Below.mono hb1 ?_)) | (with_reducible refine Below.trans ?_ (Below.mono hbr ?_)) | (with_reducible refine Below.trans ?_ (Below.mono hb ?_)) | (simp; done) | (simp; omega) | omega)))).mono ?_
  rintro e w1 ⟨p1, n1, c1, p2, n2, c2, z, rfl, hz0, hzr, O1, hb1⟩
  obtain ⟨q, hq⟩ : ∃ q, z + p = q := ⟨_, rfl⟩
  have HMY := Lib.hid (HMZ.out z hzr hz0)
  have HM3 := Lib.hid (HM2.out z hzr hz0)
  rw [hq] at HMY
  have hqq : ((q : Int) == (p : Int) + (z : Int)) = true := by simp; omega
  have hq1 : (p : Int) ≤ 3000 := by omega
  have hq2 : (z : Int) ≤ 3000 := by omega
  have hq3 : (q : Int) ≤ 6000 := by omega
  have hzs : decide ((s.size : Int) < z) = false := by simp; omega
  have m1 := hm.below hb1
  have hz1 := hb1.size
  clear O1 hzr hq HMZ HM2
  go_wp2_with fail
  refine (HMY.out _ (m1.below (by repeat' (first | (with_reducible exact Below.refl _ _) | (with_reducible refine Below.drew ?_) | (with_reducible refine belowDrewN ?_ _) | (with_reducible refine belowIter ?_ ?_ _ _) | (with_reducible refine Below.setCell ?_ ?_ _) | (with_reducible refine Below.alloc ?_ ?_ _) | (with_reducible refine Below.trans ?_ (Below.mono hb4 ?_)) | (with_reducible refine Below.trans ?_ (Below.mono hb3 ?_)) | (with_reducible refine Below.trans ?_ (Below.mono hb2 ?_)) | (with_reducible refine Below.trans ?_ (Below.mono hb1 ?_)) | (with_reducible refine Below.trans ?_ (Below.mono hbr ?_)) | (with_reducible refine Below.trans ?_ (Below.mono hb ?_)) | (simp; done) | (simp; omega) | omega)))).mono ?_
  rintro e w2 ⟨rfl, hb2⟩
  have m2 := maxStep m1 hb2
  have hz2 := sizeStep hb2
  go_wp2_with fail
  refine (HM3.out _ (m2.below (by repeat' (first | (with_reducible exact Below.refl _ _) | (with_reducible refine Below.drew ?_) | (with_reducible refine belowDrewN ?_ _) | (with_reducible refine belowIter ?_ ?_ _ _) | (with_reducible refine Below.setCell ?_ ?_ _) | (with_reducible refine Below.alloc ?_ ?_ _) | (with_reducible refine Below.trans ?_ (Below.mono hb4 ?_)) | (with_reducible refine Below.trans ?_ (Below.mono hb3 ?_)) | (with_reducible refine Below.trans ?_ (Below.mono hb2 ?_)) | (with_reducible refine Below.trans ?_ (Below.mono hb1 ?_)) | (with_reducible refine Below.trans ?_ (Below.mono hbr ?_)) | (with_reducible refine Below.trans ?_ (Below.mono hb ?_)) | (simp; done) | (simp; omega) | omega)))).mono ?_
  rintro e w3 ⟨rfl, hb3⟩
  have m3 := maxStep m2 hb3
  have hz3 := sizeStep hb3
  obtain ⟨x0, x1, xf⟩ := two_of ((hb3.block _ (by simp)).trans (heap_new_at w2 _ _ rfl))
  have l23 : w2.heap.size < w3.heap.size := by omega
  go_wp2_with fail
  refine (HL.out _ (m3.below (by repeat' (first | (with_reducible exact Below.refl _ _) | (with_reducible refine Below.drew ?_) | (with_reducible refine belowDrewN ?_ _) | (with_reducible refine belowIter ?_ ?_ _ _) | (with_reducible refine Below.setCell ?_ ?_ _) | (with_reducible refine Below.alloc ?_ ?_ _) | (with_reducible refine Below.trans ?_ (Below.mono hb4 ?_)) | (with_reducible refine Below.trans ?_ (Below.mono hb3 ?_)) | (with_reducible refine Below.trans ?_ (Below.mono hb2 ?_)) | (with_reducible refine Below.trans ?_ (Below.mono hb1 ?_)) | (with_reducible refine Below.trans ?_ (Below.mono hbr ?_)) | (with_reducible refine Below.trans ?_ (Below.mono hb ?_)) | (simp; done) | (simp; omega) | omega)))).mono ?_
  rintro e w4 ⟨rfl, hb4⟩
  go_wp2
  go_ret
  exact ⟨rfl, (by repeat' (first | (with_reducible exact Below.refl _ _) | (with_reducible refine Below.drew ?_) | (with_reducible refine belowDrewN ?_ _) | (with_reducible refine belowIter ?_ ?_ _ _) | (with_reducible refine Below.setCell ?_ ?_ _) | (with_reducible refine Below.alloc ?_ ?_ _) | (with_reducible refine Below.trans ?_ (Below.mono hb4 ?_)) | (with_reducible refine Below.trans ?_ (Below.mono hb3 ?_)) | (with_reducible refine Below.trans ?_ (Below.mono hb2 ?_)) | (with_reducible refine Below.trans ?_ (Below.mono hb1 ?_)) | (with_reducible refine Below.trans ?_ (Below.mono hbr ?_)) | (with_reducible refine Below.trans ?_ (Below.mono hb ?_)) | (simp; done) | (simp; omega) | omega))⟩
set_option maxRecDepth 100000 in
set_option maxHeartbeats 2000000 in
theorem parts_all (s : ByteArray) (h3 : ¬ 3000 < s.size) (m : Int) (w : World) (hm : MaxW w m) (o : Ob) (rest : L) (hR : readS s.data.toList = .good (o, rest)) (os : List Ob) (hT : manyS (rest.length + 1) 0 rest [] = .all os) :
    Calls Tryz.prog 6 #[.string s] w fun e w' => e = .returned (.bool true) ∧ Below w.heap.size w w' := by
  have HL := Lib.hid (fun W hm => lives_in m W hm)
  have hs : s.size ≤ 140737488355327 := by omega
  have HOB := Lib.hid (fun W hm => Object_zero s hs m W hm)
  rw [hR] at HOB
  have hF := manyS_first (n := s.size) hR (Nat.le_refl _) (by show s.size < 8000; omega)
  rw [hT] at hF
  have hsm1 := (readS_small hR).1
  have hsm2 := manyS_small _ _ _ _ _ hT (by simp)
  have HMY := Lib.hid (fun W hm => many_as s s.data.toList (.all (o :: os)) rfl hF hs m W hm)
  have HMZ := Lib.hid (fun (z : Nat) (hz : rest = s.data.toList.drop z) (hz1 : z ≤ s.size) W hm => many_as (s.extract z s.size) rest (.all os) (by rw [hz]; exact Lib.extract_to_end _ _) hT (by rw [hz, List.length_drop]; have : s.data.toList.length = s.size := rfl; omega) m W hm)
  have HS1 := Lib.hid hsm1
  have HS2 := Lib.hid hsm2
  clear hR hT hF hsm1 hsm2
  go_enter Tryz.func6, Tryz.ntmps6
  go_wp2_with fail
  refine (HOB.out _ (hm.below (by repeat' (first | (with_reducible exact Below.refl _ _) | (with_reducible refine Below.drew ?_) | (with_reducible refine belowDrewN ?_ _) | (with_reducible refine belowIter ?_ ?_ _ _) | (with_reducible refine Below.setCell ?_ ?_ _) | (with_reducible refine Below.alloc ?_ ?_ _) | (with_reducible refine Below.trans ?_ (Below.mono hb4 ?_)) | (with_reducible refine Below.trans ?_ (Below.mono hb3 ?_)) | (with_reducible refine Below.trans ?_ (Below.mono hb2 ?_)) | (with_reducible refine Below.trans ?_ (Below.mono hb1 ?_)) | (with_reducible refine Below.trans ?_ (Below.mono hbr ?_)) | (with_reducible refine Below.trans ?_ (Below.mono hb ?_)) | (simp; done) | (simp; omega) | omega)))).mono ?_
  rintro e w1 ⟨p1, n1, c1, p2, n2, c2, z, rfl, hz0, hzr, O1, hb1⟩
  have HM3 := Lib.hid (HMZ.out z hzr hz0)
  have hzs : decide ((s.size : Int) < z) = false := by simp; omega
  have m1 := hm.below hb1
  have hz1 := hb1.size
  have HO1 := Lib.hid O1
  clear O1 hzr HMZ
  go_wp2_with fail
  refine (HMY.out _ (m1.below (by repeat' (first | (with_reducible exact Below.refl _ _) | (with_reducible refine Below.drew ?_) | (with_reducible refine belowDrewN ?_ _) | (with_reducible refine belowIter ?_ ?_ _ _) | (with_reducible refine Below.setCell ?_ ?_ _) | (with_reducible refine Below.alloc ?_ ?_ _) | (with_reducible refine Below.trans ?_ (Below.mono hb4 ?_)) | (with_reducible refine Below.trans ?_ (Below.mono hb3 ?_)) | (with_reducible refine Below.trans ?_ (Below.mono hb2 ?_)) | (with_reducible refine Below.trans ?_ (Below.mono hb1 ?_)) | (with_reducible refine Below.trans ?_ (Below.mono hbr ?_)) | (with_reducible refine Below.trans ?_ (Below.mono hb ?_)) | (simp; done) | (simp; omega) | omega)))).mono ?_
  intro e w2 hP
  obtain ⟨bl, ol, cl, rfl, hcl, hRl, hbl, hb2⟩ := many_cons hP
  have HRL := Lib.hid hRl
  clear hP hRl
  have m2 := maxStep m1 hb2
  have hz2 := sizeStep hb2
  go_wp2_with fail
  refine (HM3.out _ (m2.below (by repeat' (first | (with_reducible exact Below.refl _ _) | (with_reducible refine Below.drew ?_) | (with_reducible refine belowDrewN ?_ _) | (with_reducible refine belowIter ?_ ?_ _ _) | (with_reducible refine Below.setCell ?_ ?_ _) | (with_reducible refine Below.alloc ?_ ?_ _) | (with_reducible refine Below.trans ?_ (Below.mono hb4 ?_)) | (with_reducible refine Below.trans ?_ (Below.mono hb3 ?_)) | (with_reducible refine Below.trans ?_ (Below.mono hb2 ?_)) | (with_reducible refine Below.trans ?_ (Below.mono hb1 ?_)) | (with_reducible refine Below.trans ?_ (Below.mono hbr ?_)) | (with_reducible refine Below.trans ?_ (Below.mono hb ?_)) | (simp; done) | (simp; omega) | omega)))).mono ?_
  rintro e w3 ⟨pm, cm, rfl, hcm, hRm, hlm, hb3⟩
  have HRM := Lib.hid hRm
  clear hRm
  obtain ⟨n, hn⟩ : ∃ n, os.length = n := ⟨_, rfl⟩
  rw [hn] at hcl hcm hlm
  rw [hn]
  have HN := Lib.hid hn
  clear hn
  have m3 := maxStep m2 hb3
  have hz3 := sizeStep hb3
  have l23 : w2.heap.size < w3.heap.size := by omega
  go_wp2
  obtain ⟨w4, hw4⟩ : ∃ w4, w3.alloc (.cells #[.int .i64 0, .int .i64 0] 33) = w4 := ⟨_, rfl⟩
  go_must (rw [hw4])
  have hb4 : Below w3.heap.size w3 w4 := hw4 ▸ (by repeat' (first | (with_reducible exact Below.refl _ _) | (with_reducible refine Below.drew ?_) | (with_reducible refine belowDrewN ?_ _) | (with_reducible refine belowIter ?_ ?_ _ _) | (with_reducible refine Below.setCell ?_ ?_ _) | (with_reducible refine Below.alloc ?_ ?_ _) | (with_reducible refine Below.trans ?_ (Below.mono hb4 ?_)) | (with_reducible refine Below.trans ?_ (Below.mono hb3 ?_)) | (with_reducible refine Below.trans ?_ (Below.mono hb2 ?_)) | (with_reducible refine Below.trans ?_ (Below.mono hb1 ?_)) | (with_reducible refine Below.trans ?_ (Below.mono hbr ?_)) | (with_reducible refine Below.trans ?_ (Below.mono hb ?_)) | (simp; done) | (simp; omega) | omega))
  have hz4 := hb4.size
  clear hw4
  have m4 := m3.below hb4
  have hb24 : Below w2.heap.size w2 w4 := (by repeat' (first | (with_reducible exact Below.refl _ _) | (with_reducible refine Below.drew ?_) | (with_reducible refine belowDrewN ?_ _) | (with_reducible refine belowIter ?_ ?_ _ _) | (with_reducible refine Below.setCell ?_ ?_ _) | (with_reducible refine Below.alloc ?_ ?_ _) | (with_reducible refine Below.trans ?_ (Below.mono hb4 ?_)) | (with_reducible refine Below.trans ?_ (Below.mono hb3 ?_)) | (with_reducible refine Below.trans ?_ (Below.mono hb2 ?_)) | (with_reducible refine Below.trans ?_ (Below.mono hb1 ?_)) | (with_reducible refine Below.trans ?_ (Below.mono hbr ?_)) | (with_reducible refine Below.trans ?_ (Below.mono hb ?_)) | (simp; done) | (simp; omega) | omega))
  have hb14 : Below w1.heap.size w1 w4 := (by repeat' (first | (with_reducible exact Below.refl _ _) | (with_reducible refine Below.drew ?_) | (with_reducible refine belowDrewN ?_ _) | (with_reducible refine belowIter ?_ ?_ _ _) | (with_reducible refine Below.setCell ?_ ?_ _) | (with_reducible refine Below.alloc ?_ ?_ _) | (with_reducible refine Below.trans ?_ (Below.mono hb4 ?_)) | (with_reducible refine Below.trans ?_ (Below.mono hb3 ?_)) | (with_reducible refine Below.trans ?_ (Below.mono hb2 ?_)) | (with_reducible refine Below.trans ?_ (Below.mono hb1 ?_)) | (with_reducible refine Below.trans ?_ (Below.mono hbr ?_)) | (with_reducible refine Below.trans ?_ (Below.mono hb ?_)) | (simp; done) | (simp; omega) | omega))
  obtain ⟨x0, x1, _⟩ := two_of ((hb3.block _ (by simp)).trans (heap_new_at w2 _ _ rfl))
  obtain ⟨y0, y1⟩ := two_keep hb4 l23 ⟨x0, x1⟩
  clear x0 x1
  obtain ⟨x0, x1, x2, x3, x4, x5, _⟩ := six_of ((hb2.block _ (by simp)).trans (heap_new_at w1 _ _ rfl))
  have L2 : w1.heap.size < w2.heap.size := by omega
  obtain ⟨g0, g1, g2, g3, g4, g5⟩ := six_keep0 hb24 L2 ⟨x0, x1, x2, x3, x4, x5⟩
  clear x0 x1 x2 x3 x4 x5
  obtain ⟨q1, i1, e1, q2, i2, e2, Lb, OB, z0, z1, z2, z3, z4, z5⟩ := row_head HRL.out
  obtain ⟨f0, f1, f2, f3, f4, f5⟩ := six_keep hb24 Lb ⟨z0, z1, z2, z3, z4, z5⟩
  clear z0 z1 z2 z3 z4 z5
  have L4 : w2.heap.size < w4.heap.size := by omega
  have L1 : bl < w4.heap.size := by omega
  have L3 : w1.heap.size < w4.heap.size := by omega
  have HX := Lib.hid (fun (W : World) (hW : Below w4.heap.size w4 W) => same_in (fun b => b < w4.heap.size) 25 W _ _ o
    (ObjAt.grow (S' := fun b => b < w4.heap.size) OB (fun b h1 h2 => ⟨by omega, (hb24.trans (hW.mono (by omega))).block b h2⟩))
    (ObjAt.grow (S' := fun b => b < w4.heap.size) HO1.out (fun b h1 h2 => ⟨by omega, (hb14.trans (hW.mono (by omega))).block b h2⟩)) HS1.out (fun b h => Nat.lt_of_lt_of_le h hW.size))
  unfold objCells at HX
  have HY := Lib.hid (fun (W : World) (hW : Below w4.heap.size w4 W) (q : Option Addr) (c : Nat) (hq : n = 0 ∨ q = some ⟨bl, ol + 6, none⟩) => same06 (fun b => b < w4.heap.size) 25 (.slice q n c) (.slice pm n cm) os W (by rw [HN.out]; omega) HS2.out
    (by
      rcases hq with rfl | rfl
      · obtain rfl := List.eq_nil_of_length_eq_zero HN.out
        exact .inl ⟨rfl, _, _, rfl⟩
      · have := row_tail (c' := c) HRL.out
        rw [HN.out] at this
        exact RowAt.grow this (fun b h1 h2 => ⟨by omega, (hb24.trans (hW.mono (by omega))).block b h2⟩))
    (by
      have := HRM.out
      rw [HN.out] at this
      exact RowAt.grow this (fun b h1 h2 => ⟨by omega, (hb4.trans (hW.mono (by omega))).block b h2⟩)) (fun b h => Nat.lt_of_lt_of_le h hW.size))
  have KB := Lib.hid (show _ ∧ _ ∧ _ ∧ _ ∧ _ ∧ _ from ⟨f0, f1, f2, f3, f4, f5⟩)
  have KO := Lib.hid (show _ ∧ _ ∧ _ ∧ _ ∧ _ ∧ _ from ⟨g0, g1, g2, g3, g4, g5⟩)
  have KF := Lib.hid (show _ ∧ _ from ⟨y0, y1⟩)
  clear OB HO1 HRL HRM hbl HM3 HMY HOB
  have hc4 : (1 : Int) ≤ (n : Int) + 1 := by omega
  have hc5 : 1 ≤ n + 1 := by omega
  have hc6 : (1 : Int) ≤ ((n + 1 : Nat) : Int) := by omega
  have hc7 : ((n + 1 : Nat) : Int) ≤ (cl : Int) := by omega
  have hc8 : (n : Int) + 1 ≤ (cl : Int) := by omega
  by_cases hc1 : cl = 1
  · have H0 := Lib.hid (show n = 0 by omega)
    have hc3 : cl - 1 = 0 := by omega
    clear hc1
    have hwr : IntKind.i64.wrap ((n : Int) + 1) = (n : Int) + 1 := IntWalk.i64_in _ ⟨by omega, by omega⟩
    go_region_held3 (fun w' => w'.cell? ⟨w2.heap.size, 0, none⟩ = some (.int .i64 0) ∧ w'.cell? ⟨w2.heap.size, 1, none⟩ = some (.int .i64 0) ∧ w'.cell? ⟨bl, ol, none⟩ = some (.int .i64 o.kind) ∧ w'.cell? ⟨bl, ol + 1, none⟩ = some (.int .i64 o.n) ∧ w'.cell? ⟨bl, ol + 2, none⟩ = some (.int .i64 o.g) ∧ w'.cell? ⟨bl, ol + 3, none⟩ = some (.string ⟨o.s.toArray⟩) ∧ w'.cell? ⟨bl, ol + 4, none⟩ = some (.slice q1 i1 e1) ∧ w'.cell? ⟨bl, ol + 5, none⟩ = some (.slice q2 i2 e2) ∧ w'.cell? ⟨w1.heap.size, 0, none⟩ = some (.int .i64 o.kind) ∧ w'.cell? ⟨w1.heap.size, 1, none⟩ = some (.int .i64 o.n) ∧ w'.cell? ⟨w1.heap.size, 2, none⟩ = some (.int .i64 o.g) ∧ w'.cell? ⟨w1.heap.size, 3, none⟩ = some (.string ⟨o.s.toArray⟩) ∧ w'.cell? ⟨w1.heap.size, 4, none⟩ = some (.slice p1 n1 c1) ∧ w'.cell? ⟨w1.heap.size, 5, none⟩ = some (.slice p2 n2 c2)) (go_keep)
      ((first
        | (go_at_call 15; (try clear hwr); refine (HX.out _ (by repeat' (first | (with_reducible exact Below.refl _ _) | (with_reducible refine Below.drew ?_) | (with_reducible refine belowDrewN ?_ _) | (with_reducible refine belowIter ?_ ?_ _ _) | (with_reducible refine Below.setCell ?_ ?_ _) | (with_reducible refine Below.alloc ?_ ?_ _) | (with_reducible refine Below.trans ?_ (Below.mono hb4 ?_)) | (with_reducible refine Below.trans ?_ (Below.mono hb3 ?_)) | (with_reducible refine Below.trans ?_ (Below.mono hb2 ?_)) | (with_reducible refine Below.trans ?_ (Below.mono hb1 ?_)) | (with_reducible refine Below.trans ?_ (Below.mono hbr ?_)) | (with_reducible refine Below.trans ?_ (Below.mono hb ?_)) | (simp; done) | (simp; omega) | omega))).mono ?_; rintro e v1 ⟨rfl, hbr⟩; have hb' : Below w4.heap.size w4 v1 := (by repeat' (first | (with_reducible exact Below.refl _ _) | (with_reducible refine Below.drew ?_) | (with_reducible refine belowDrewN ?_ _) | (with_reducible refine belowIter ?_ ?_ _ _) | (with_reducible refine Below.setCell ?_ ?_ _) | (with_reducible refine Below.alloc ?_ ?_ _) | (with_reducible refine Below.trans ?_ (Below.mono hb4 ?_)) | (with_reducible refine Below.trans ?_ (Below.mono hb3 ?_)) | (with_reducible refine Below.trans ?_ (Below.mono hb2 ?_)) | (with_reducible refine Below.trans ?_ (Below.mono hb1 ?_)) | (with_reducible refine Below.trans ?_ (Below.mono hbr ?_)) | (with_reducible refine Below.trans ?_ (Below.mono hb ?_)) | (simp; done) | (simp; omega) | omega)); clear hbr; (try clear hb); have hb := hb'; clear hb'; have hz5 := hb.size; obtain ⟨k0, k1, k2, k3, k4, k5⟩ := six_keep hb L1 KB.out; obtain ⟨l0, l1, l2, l3, l4, l5⟩ := six_keep0 hb L3 KO.out; obtain ⟨j0, j1⟩ := two_keep hb L4 KF.out)
        | (go_at_call 16; (try clear hwr); refine (HY.out _ (by repeat' (first | (with_reducible exact Below.refl _ _) | (with_reducible refine Below.drew ?_) | (with_reducible refine belowDrewN ?_ _) | (with_reducible refine belowIter ?_ ?_ _ _) | (with_reducible refine Below.setCell ?_ ?_ _) | (with_reducible refine Below.alloc ?_ ?_ _) | (with_reducible refine Below.trans ?_ (Below.mono hb4 ?_)) | (with_reducible refine Below.trans ?_ (Below.mono hb3 ?_)) | (with_reducible refine Below.trans ?_ (Below.mono hb2 ?_)) | (with_reducible refine Below.trans ?_ (Below.mono hb1 ?_)) | (with_reducible refine Below.trans ?_ (Below.mono hbr ?_)) | (with_reducible refine Below.trans ?_ (Below.mono hb ?_)) | (simp; done) | (simp; omega) | omega)) _ _ (by first | exact .inr rfl | exact .inl H0.out)).mono ?_; rintro e v1 ⟨rfl, hbr⟩; have hb' : Below w4.heap.size w4 v1 := (by repeat' (first | (with_reducible exact Below.refl _ _) | (with_reducible refine Below.drew ?_) | (with_reducible refine belowDrewN ?_ _) | (with_reducible refine belowIter ?_ ?_ _ _) | (with_reducible refine Below.setCell ?_ ?_ _) | (with_reducible refine Below.alloc ?_ ?_ _) | (with_reducible refine Below.trans ?_ (Below.mono hb4 ?_)) | (with_reducible refine Below.trans ?_ (Below.mono hb3 ?_)) | (with_reducible refine Below.trans ?_ (Below.mono hb2 ?_)) | (with_reducible refine Below.trans ?_ (Below.mono hb1 ?_)) | (with_reducible refine Below.trans ?_ (Below.mono hbr ?_)) | (with_reducible refine Below.trans ?_ (Below.mono hb ?_)) | (simp; done) | (simp; omega) | omega)); clear hbr; (try clear hb); have hb := hb'; clear hb'; have hz5 := hb.size; obtain ⟨k0, k1, k2, k3, k4, k5⟩ := six_keep hb L1 KB.out; obtain ⟨l0, l1, l2, l3, l4, l5⟩ := six_keep0 hb L3 KO.out; obtain ⟨j0, j1⟩ := two_keep hb L4 KF.out)
        | (go_at_call 8; refine (HL.out _ (m4.below (by repeat' (first | (with_reducible exact Below.refl _ _) | (with_reducible refine Below.drew ?_) | (with_reducible refine belowDrewN ?_ _) | (with_reducible refine belowIter ?_ ?_ _ _) | (with_reducible refine Below.setCell ?_ ?_ _) | (with_reducible refine Below.alloc ?_ ?_ _) | (with_reducible refine Below.trans ?_ (Below.mono hb4 ?_)) | (with_reducible refine Below.trans ?_ (Below.mono hb3 ?_)) | (with_reducible refine Below.trans ?_ (Below.mono hb2 ?_)) | (with_reducible refine Below.trans ?_ (Below.mono hb1 ?_)) | (with_reducible refine Below.trans ?_ (Below.mono hbr ?_)) | (with_reducible refine Below.trans ?_ (Below.mono hb ?_)) | (simp; done) | (simp; omega) | omega)))).mono ?_; rintro e v1 ⟨rfl, hbr⟩; have hb' : Below w4.heap.size w4 v1 := (by repeat' (first | (with_reducible exact Below.refl _ _) | (with_reducible refine Below.drew ?_) | (with_reducible refine belowDrewN ?_ _) | (with_reducible refine belowIter ?_ ?_ _ _) | (with_reducible refine Below.setCell ?_ ?_ _) | (with_reducible refine Below.alloc ?_ ?_ _) | (with_reducible refine Below.trans ?_ (Below.mono hb4 ?_)) | (with_reducible refine Below.trans ?_ (Below.mono hb3 ?_)) | (with_reducible refine Below.trans ?_ (Below.mono hb2 ?_)) | (with_reducible refine Below.trans ?_ (Below.mono hb1 ?_)) | (with_reducible refine Below.trans ?_ (Below.mono hbr ?_)) | (with_reducible refine Below.trans ?_ (Below.mono hb ?_)) | (simp; done) | (simp; omega) | omega)); clear hbr; (try clear hb); have hb := hb'; clear hb'; have hz5 := hb.size; obtain ⟨k0, k1, k2, k3, k4, k5⟩ := six_keep hb L1 KB.out; obtain ⟨l0, l1, l2, l3, l4, l5⟩ := six_keep0 hb L3 KO.out; obtain ⟨j0, j1⟩ := two_keep hb L4 KF.out)))
    all_goals go_wp2
    all_goals
      go_ret
      exact ⟨rfl, (by repeat' (first | (with_reducible exact Below.refl _ _) | (with_reducible refine Below.drew ?_) | (with_reducible refine belowDrewN ?_ _) | (with_reducible refine belowIter ?_ ?_ _ _) | (with_reducible refine Below.setCell ?_ ?_ _) | (with_reducible refine Below.alloc ?_ ?_ _) | (with_reducible refine Below.trans ?_ (Below.mono hb4 ?_)) | (with_reducible refine Below.trans ?_ (Below.mono hb3 ?_)) | (with_reducible refine Below.trans ?_ (Below.mono hb2 ?_)) | (with_reducible refine Below.trans ?_ (Below.mono hb1 ?_)) | (with_reducible refine Below.trans ?_ (Below.mono hbr ?_)) | (with_reducible refine Below.trans ?_ (Below.mono hb ?_)) | (simp; done) | (simp; omega) | omega))⟩
  · have H0 : True := trivial
    have hc2 : 1 < cl := by omega
    have hc3 : ¬ cl - 1 = 0 := by omega
    have hwr : IntKind.i64.wrap ((n : Int) + 1) = (n : Int) + 1 := IntWalk.i64_in _ ⟨by omega, by omega⟩
    go_region_held3 (fun w' => w'.cell? ⟨w2.heap.size, 0, none⟩ = some (.int .i64 0) ∧ w'.cell? ⟨w2.heap.size, 1, none⟩ = some (.int .i64 0) ∧ w'.cell? ⟨bl, ol, none⟩ = some (.int .i64 o.kind) ∧ w'.cell? ⟨bl, ol + 1, none⟩ = some (.int .i64 o.n) ∧ w'.cell? ⟨bl, ol + 2, none⟩ = some (.int .i64 o.g) ∧ w'.cell? ⟨bl, ol + 3, none⟩ = some (.string ⟨o.s.toArray⟩) ∧ w'.cell? ⟨bl, ol + 4, none⟩ = some (.slice q1 i1 e1) ∧ w'.cell? ⟨bl, ol + 5, none⟩ = some (.slice q2 i2 e2) ∧ w'.cell? ⟨w1.heap.size, 0, none⟩ = some (.int .i64 o.kind) ∧ w'.cell? ⟨w1.heap.size, 1, none⟩ = some (.int .i64 o.n) ∧ w'.cell? ⟨w1.heap.size, 2, none⟩ = some (.int .i64 o.g) ∧ w'.cell? ⟨w1.heap.size, 3, none⟩ = some (.string ⟨o.s.toArray⟩) ∧ w'.cell? ⟨w1.heap.size, 4, none⟩ = some (.slice p1 n1 c1) ∧ w'.cell? ⟨w1.heap.size, 5, none⟩ = some (.slice p2 n2 c2)) (go_keep)
      ((first
        | (go_at_call 15; (try clear hwr); refine (HX.out _ (by repeat' (first | (with_reducible exact Below.refl _ _) | (with_reducible refine Below.drew ?_) | (with_reducible refine belowDrewN ?_ _) | (with_reducible refine belowIter ?_ ?_ _ _) | (with_reducible refine Below.setCell ?_ ?_ _) | (with_reducible refine Below.alloc ?_ ?_ _) | (with_reducible refine Below.trans ?_ (Below.mono hb4 ?_)) | (with_reducible refine Below.trans ?_ (Below.mono hb3 ?_)) | (with_reducible refine Below.trans ?_ (Below.mono hb2 ?_)) | (with_reducible refine Below.trans ?_ (Below.mono hb1 ?_)) | (with_reducible refine Below.trans ?_ (Below.mono hbr ?_)) | (with_reducible refine Below.trans ?_ (Below.mono hb ?_)) | (simp; done) | (simp; omega) | omega))).mono ?_; rintro e v1 ⟨rfl, hbr⟩; have hb' : Below w4.heap.size w4 v1 := (by repeat' (first | (with_reducible exact Below.refl _ _) | (with_reducible refine Below.drew ?_) | (with_reducible refine belowDrewN ?_ _) | (with_reducible refine belowIter ?_ ?_ _ _) | (with_reducible refine Below.setCell ?_ ?_ _) | (with_reducible refine Below.alloc ?_ ?_ _) | (with_reducible refine Below.trans ?_ (Below.mono hb4 ?_)) | (with_reducible refine Below.trans ?_ (Below.mono hb3 ?_)) | (with_reducible refine Below.trans ?_ (Below.mono hb2 ?_)) | (with_reducible refine Below.trans ?_ (Below.mono hb1 ?_)) | (with_reducible refine Below.trans ?_ (Below.mono hbr ?_)) | (with_reducible refine Below.trans ?_ (Below.mono hb ?_)) | (simp; done) | (simp; omega) | omega)); clear hbr; (try clear hb); have hb := hb'; clear hb'; have hz5 := hb.size; obtain ⟨k0, k1, k2, k3, k4, k5⟩ := six_keep hb L1 KB.out; obtain ⟨l0, l1, l2, l3, l4, l5⟩ := six_keep0 hb L3 KO.out; obtain ⟨j0, j1⟩ := two_keep hb L4 KF.out)
        | (go_at_call 16; (try clear hwr); refine (HY.out _ (by repeat' (first | (with_reducible exact Below.refl _ _) | (with_reducible refine Below.drew ?_) | (with_reducible refine belowDrewN ?_ _) | (with_reducible refine belowIter ?_ ?_ _ _) | (with_reducible refine Below.setCell ?_ ?_ _) | (with_reducible refine Below.alloc ?_ ?_ _) | (with_reducible refine Below.trans ?_ (Below.mono hb4 ?_)) | (with_reducible refine Below.trans ?_ (Below.mono hb3 ?_)) | (with_reducible refine Below.trans ?_ (Below.mono hb2 ?_)) | (with_reducible refine Below.trans ?_ (Below.mono hb1 ?_)) | (with_reducible refine Below.trans ?_ (Below.mono hbr ?_)) | (with_reducible refine Below.trans ?_ (Below.mono hb ?_)) | (simp; done) | (simp; omega) | omega)) _ _ (by first | exact .inr rfl | exact .inl H0.out)).mono ?_; rintro e v1 ⟨rfl, hbr⟩; have hb' : Below w4.heap.size w4 v1 := (by repeat' (first | (with_reducible exact Below.refl _ _) | (with_reducible refine Below.drew ?_) | (with_reducible refine belowDrewN ?_ _) | (with_reducible refine belowIter ?_ ?_ _ _) | (with_reducible refine Below.setCell ?_ ?_ _) | (with_reducible refine Below.alloc ?_ ?_ _) | (with_reducible refine Below.trans ?_ (Below.mono hb4 ?_)) | (with_reducible refine Below.trans ?_ (Below.mono hb3 ?_)) | (with_reducible refine Below.trans ?_ (Below.mono hb2 ?_)) | (with_reducible refine Below.trans ?_ (Below.mono hb1 ?_)) | (with_reducible refine Below.trans ?_ (Below.mono hbr ?_)) | (with_reducible refine Below.trans ?_ (Below.mono hb ?_)) | (simp; done) | (simp; omega) | omega)); clear hbr; (try clear hb); have hb := hb'; clear hb'; have hz5 := hb.size; obtain ⟨k0, k1, k2, k3, k4, k5⟩ := six_keep hb L1 KB.out; obtain ⟨l0, l1, l2, l3, l4, l5⟩ := six_keep0 hb L3 KO.out; obtain ⟨j0, j1⟩ := two_keep hb L4 KF.out)
        | (go_at_call 8; refine (HL.out _ (m4.below (by repeat' (first | (with_reducible exact Below.refl _ _) | (with_reducible refine Below.drew ?_) | (with_reducible refine belowDrewN ?_ _) | (with_reducible refine belowIter ?_ ?_ _ _) | (with_reducible refine Below.setCell ?_ ?_ _) | (with_reducible refine Below.alloc ?_ ?_ _) | (with_reducible refine Below.trans ?_ (Below.mono hb4 ?_)) | (with_reducible refine Below.trans ?_ (Below.mono hb3 ?_)) | (with_reducible refine Below.trans ?_ (Below.mono hb2 ?_)) | (with_reducible refine Below.trans ?_ (Below.mono hb1 ?_)) | (with_reducible refine Below.trans ?_ (Below.mono hbr ?_)) | (with_reducible refine Below.trans ?_ (Below.mono hb ?_)) | (simp; done) | (simp; omega) | omega)))).mono ?_; rintro e v1 ⟨rfl, hbr⟩; have hb' : Below w4.heap.size w4 v1 := (by repeat' (first | (with_reducible exact Below.refl _ _) | (with_reducible refine Below.drew ?_) | (with_reducible refine belowDrewN ?_ _) | (with_reducible refine belowIter ?_ ?_ _ _) | (with_reducible refine Below.setCell ?_ ?_ _) | (with_reducible refine Below.alloc ?_ ?_ _) | (with_reducible refine Below.trans ?_ (Below.mono hb4 ?_)) | (with_reducible refine Below.trans ?_ (Below.mono hb3 ?_)) | (with_reducible refine Below.trans ?_ (Below.mono hb2 ?_)) | (with_reducible refine Below.trans ?_ (Below.mono hb1 ?_)) | (with_reducible refine Below.trans ?_ (Below.mono hbr ?_)) | (with_reducible refine Below.trans ?_ (Below.mono hb ?_)) | (simp; done) | (simp; omega) | omega)); clear hbr; (try clear hb); have hb := hb'; clear hb'; have hz5 := hb.size; obtain ⟨k0, k1, k2, k3, k4, k5⟩ := six_keep hb L1 KB.out; obtain ⟨l0, l1, l2, l3, l4, l5⟩ := six_keep0 hb L3 KO.out; obtain ⟨j0, j1⟩ := two_keep hb L4 KF.out)))
    all_goals go_wp2
    all_goals
      go_ret
      exact ⟨rfl, (by repeat' (first | (with_reducible exact Below.refl _ _) | (with_reducible refine Below.drew ?_) | (with_reducible refine belowDrewN ?_ _) | (with_reducible refine belowIter ?_ ?_ _ _) | (with_reducible refine Below.setCell ?_ ?_ _) | (with_reducible refine Below.alloc ?_ ?_ _) | (with_reducible refine Below.trans ?_ (Below.mono hb4 ?_)) | (with_reducible refine Below.trans ?_ (Below.mono hb3 ?_)) | (with_reducible refine Below.trans ?_ (Below.mono hb2 ?_)) | (with_reducible refine Below.trans ?_ (Below.mono hb1 ?_)) | (with_reducible refine Below.trans ?_ (Below.mono hbr ?_)) | (with_reducible refine Below.trans ?_ (Below.mono hb ?_)) | (simp; done) | (simp; omega) | omega))⟩
theorem parts_in (s : ByteArray) (m : Int) (w : World) (hm : MaxW w m) :
    Calls Tryz.prog 6 #[.string s] w fun e w' => e = .returned (.bool true) ∧ Below w.heap.size w w' := by
  by_cases h3 : 3000 < s.size
  · exact parts_long s h3 m w hm
  cases hR : readS s.data.toList with
  | bad k => exact parts_bad s h3 m w hm k hR
  | good x =>
    obtain ⟨o, rest⟩ := x
    cases hT : manyS (rest.length + 1) 0 rest [] with
    | fault p k => exact parts_fault s h3 m w hm o rest hR p k hT
    | all os => exact parts_all s h3 m w hm o rest hR os hT
end Go.Proofs.YtpadlepdgnlgnaaGreatDoor
