/- The walk of the statements' own look at a few fixed texts. -/
import Derived.Test.YtpadlepdgnlgnaaGreatDoorMany
set_option linter.all false
namespace Go.Proofs.YtpadlepdgnlgnaaGreatDoor
open Go.RowKit Fo

theorem lv1 : wholeS [49, 32, 48, 32, 82] = .good (.ref 1 0) := by kernel_rfl
theorem lv2 : wholeS [91, 49, 32, 48, 32, 82, 32, 50, 32, 48, 93] = .good (.mk 6 0 0 [] [] [.ref 1 0, .int 2, .int 0]) := by kernel_rfl
theorem lv3 : readS [60, 60, 47, 66, 32, 49, 47, 65, 32, 110, 117, 108, 108, 62, 62, 32, 120] = .good (.mk 7 0 0 [] [[66]] [.int 1], [32, 120]) := by kernel_rfl
theorem lv4 : wholeS [60, 60, 47, 65, 32, 49, 47, 65, 32, 110, 117, 108, 108, 62, 62] = .bad 9 := by kernel_rfl
theorem lv5 : wholeS [82] = .bad 3 := by kernel_rfl
theorem lv6 : wholeS [91, 49] = .bad 4 := by kernel_rfl
theorem lv7 : wholeS [48, 32, 48, 32, 82] = .bad 3 := by kernel_rfl
theorem lv8 : manyS (([32, 49, 32, 93] : L).length + 1) 0 [32, 49, 32, 93] [] = .fault 3 3 := by kernel_rfl

theorem whole_lit (l : L) (R : Res Ob) (h : wholeS l = R) (hl : l.length ≤ 100) (m : Int) (w : World) (hm : MaxW w m) : Calls Tryz.prog 11 #[.string ⟨l.toArray⟩] w (WholePost w R) := by
  subst h
  exact Whole_in ⟨l.toArray⟩ (by show l.length ≤ _; omega) m w hm
theorem keep1 {W W' : World} {ob : Go.Obj} (hb : Below (W.alloc ob).heap.size (W.alloc ob) W') {b o : Nat} {v : Value} (h : W.cell? ⟨b, o, none⟩ = some v) (hp : b < W.heap.size) : W'.cell? ⟨b, o, none⟩ = some v :=
  (hb.cell (p := ⟨b, o, none⟩) (by simp; omega)).trans ((World.cell?_of_block (Below.heap_alloc _ _ _ hp)).trans h)
theorem maxStep {W W' : World} {ob : Go.Obj} {m : Int} (h : MaxW W m) (hb : Below (W.alloc ob).heap.size (W.alloc ob) W') : MaxW W' m := (h.below ((Below.refl _ _).alloc (Nat.le_refl _) _)).below hb
theorem sizeStep {W W' : World} {ob : Go.Obj} (hb : Below (W.alloc ob).heap.size (W.alloc ob) W') : W.heap.size + 1 ≤ W'.heap.size := by have := hb.size; simpa using this
theorem belowStep {B : Nat} {w W W' : World} {ob : Go.Obj} (h : Below B w W) (hB : B ≤ W.heap.size) (hb : Below (W.alloc ob).heap.size (W.alloc ob) W') : Below B w W' := (h.alloc hB ob).trans (hb.mono (by simp; omega))
/-- The kind of a kid, and where it lies. -/
theorem kid_kind {S : Nat → Prop} {d : Nat} {w : World} {k n g : Int} {s : L} {kv : Value} {p : Option Addr} {n2 c2 : Nat} {o : Ob} (h : ObjAt S d w (objCells k n g s kv (.slice p n2 c2)) o) (i : Nat) (hi : i < o.kids.length) :
    ∃ kb off, p = some ⟨kb, off, none⟩ ∧ n2 = o.kids.length ∧ kb < w.heap.size ∧ w.cell? ⟨kb, off + 6 * i, none⟩ = some (.int .i64 (o.kids[i]).kind) := by
  cases d with
  | zero => exact h.elim
  | succ d =>
    obtain ⟨kv', dv, h1, h2, h3⟩ := h
    simp [objCells] at h1
    obtain ⟨_, _, _, _, _, h6⟩ := h1
    rcases h3 with ⟨h3, _⟩ | ⟨b, off, c, h4, h5, h7⟩
    · rw [h3] at hi; simp at hi
    · rw [h4] at h6
      simp at h6
      obtain ⟨ks, g1, g2, g3⟩ := h7 i hi
      obtain ⟨p1, n1, c1, p2, n2, c2, rfl⟩ := g3.form
      have hc := g2 0 (by simp [objCells])
      have hlt : b < w.heap.size := by
        apply Classical.byContradiction; intro hn
        simp [World.cell?, Array.getElem?_eq_none (Nat.not_lt.1 hn)] at hc
      exact ⟨b, off, h6.1, h6.2.1, hlt, hc⟩
theorem key_text {S : Nat → Prop} {d : Nat} {w : World} {k n g : Int} {s : L} {dv : Value} {p : Option Addr} {n2 c2 : Nat} {o : Ob} (h : ObjAt S d w (objCells k n g s (.slice p n2 c2) dv) o) (i : Nat) (hi : i < o.keys.length) :
    ∃ kb off, p = some ⟨kb, off, none⟩ ∧ n2 = o.keys.length ∧ kb < w.heap.size ∧ w.cell? ⟨kb, off + i, none⟩ = some (.string ⟨(o.keys[i]).toArray⟩) := by
  cases d with
  | zero => exact h.elim
  | succ d =>
    obtain ⟨kv', dv, h1, h2, h3⟩ := h
    simp [objCells] at h1
    obtain ⟨_, _, _, _, h6, _⟩ := h1
    rcases h2 with ⟨h3, _⟩ | ⟨b, off, c, h4, h5, h7⟩
    · rw [h3] at hi; simp at hi
    · rw [h4] at h6
      simp at h6
      have hc := h7 i hi
      have hlt : b < w.heap.size := by
        apply Classical.byContradiction; intro hn
        simp [World.cell?, Array.getElem?_eq_none (Nat.not_lt.1 hn)] at hc
      exact ⟨b, off, h6.1, h6.2.1, hlt, hc⟩
theorem object_lit (l : L) (R : Res (Ob × L)) (h : readS l = R) (hl : l.length ≤ 100) (m : Int) (w : World) (hm : MaxW w m) : Calls Tryz.prog 9 #[.string ⟨l.toArray⟩, .int .i64 0] w (ObjPost ⟨l.toArray⟩ w R) := by
  subst h
  exact Object_zero ⟨l.toArray⟩ (by show l.length ≤ _; omega) m w hm
theorem many_lit (l : L) (R : Mres) (h : manyS (l.length + 1) 0 l [] = R) (hl : l.length ≤ 100) (m : Int) (w : World) (hm : MaxW w m) : Calls Tryz.prog 13 #[.string ⟨l.toArray⟩] w (ManyPost w R) := by
  subst h
  exact Many_in ⟨l.toArray⟩ (by show l.length ≤ _; omega) m w hm
set_option maxRecDepth 100000 in
set_option maxHeartbeats 2000000 in
theorem lives_in (m : Int) (w : World) (hm : MaxW w m) : Calls Tryz.prog 8 #[] w fun e w' => e = .returned (.bool true) ∧ Below w.heap.size w w' := by
  go_enter Tryz.func8, Tryz.ntmps8
  go_wp2_with fail
  refine (whole_lit _ _ lv1 (by decide) m _ (hm.below (by repeat' (first | (with_reducible exact Below.refl _ _) | (with_reducible refine Below.drew ?_) | (with_reducible refine belowDrewN ?_ _) | (with_reducible refine belowIter ?_ ?_ _ _) | (with_reducible refine Below.setCell ?_ ?_ _) | (with_reducible refine Below.alloc ?_ ?_ _) | (with_reducible refine Below.trans ?_ (Below.mono hb4 ?_)) | (with_reducible refine Below.trans ?_ (Below.mono hb3 ?_)) | (with_reducible refine Below.trans ?_ (Below.mono hb2 ?_)) | (with_reducible refine Below.trans ?_ (Below.mono hb1 ?_)) | (with_reducible refine Below.trans ?_ (Below.mono hbr ?_)) | (with_reducible refine Below.trans ?_ (Below.mono hb ?_)) | (simp; done) | (simp; omega) | omega)))).mono ?_
  rintro e w1 ⟨p1, n1, c1, p2, n2, c2, rfl, O1, hb1⟩
  dsimp only [Ob.ref, Ob.int, Ob.kind, Ob.n, Ob.g, Ob.s]
  have m1 : MaxW w1 m := hm.below hb1
  have bw1 : Below w.heap.size w w1 := hb1
  have s1 := hb1.size
  clear O1 hb1
  go_wp2_with fail
  refine (whole_lit _ _ lv2 (by decide) m _ (m1.below (by repeat' (first | (with_reducible exact Below.refl _ _) | (with_reducible refine Below.drew ?_) | (with_reducible refine belowDrewN ?_ _) | (with_reducible refine belowIter ?_ ?_ _ _) | (with_reducible refine Below.setCell ?_ ?_ _) | (with_reducible refine Below.alloc ?_ ?_ _) | (with_reducible refine Below.trans ?_ (Below.mono hb4 ?_)) | (with_reducible refine Below.trans ?_ (Below.mono hb3 ?_)) | (with_reducible refine Below.trans ?_ (Below.mono hb2 ?_)) | (with_reducible refine Below.trans ?_ (Below.mono hb1 ?_)) | (with_reducible refine Below.trans ?_ (Below.mono hbr ?_)) | (with_reducible refine Below.trans ?_ (Below.mono hb ?_)) | (simp; done) | (simp; omega) | omega)))).mono ?_
  rintro e w2 ⟨p3, n3, c3, p4, n4, c4, rfl, O2, hb2⟩
  have m2 := maxStep m1 hb2
  have bw2 := belowStep bw1 s1 hb2
  have s2 := sizeStep hb2
  obtain ⟨a0, a1, _, _, _, _, _⟩ := six_of ((hb2.block _ (by simp)).trans (heap_new_at w1 _ _ rfl))
  dsimp only [Ob.ref, Ob.int, Ob.kind, Ob.n, Ob.g, Ob.s] at *
  obtain ⟨kb, off, rfl, hn4, sb, kc⟩ := kid_kind O2 2 (by decide)
  replace hn4 : n4 = 3 := hn4
  subst hn4
  have kc : w2.cell? ⟨kb, off + 12, none⟩ = some (.int .i64 2) := kc
  have la : w1.heap.size < w2.heap.size := by omega
  have s2' : w.heap.size ≤ w2.heap.size := by omega
  clear O2 hb2 bw1 m1
  go_wp2_with fail
  refine (object_lit _ _ lv3 (by decide) m _ (m2.below (by repeat' (first | (with_reducible exact Below.refl _ _) | (with_reducible refine Below.drew ?_) | (with_reducible refine belowDrewN ?_ _) | (with_reducible refine belowIter ?_ ?_ _ _) | (with_reducible refine Below.setCell ?_ ?_ _) | (with_reducible refine Below.alloc ?_ ?_ _) | (with_reducible refine Below.trans ?_ (Below.mono hb4 ?_)) | (with_reducible refine Below.trans ?_ (Below.mono hb3 ?_)) | (with_reducible refine Below.trans ?_ (Below.mono hb2 ?_)) | (with_reducible refine Below.trans ?_ (Below.mono hb1 ?_)) | (with_reducible refine Below.trans ?_ (Below.mono hbr ?_)) | (with_reducible refine Below.trans ?_ (Below.mono hb ?_)) | (simp; done) | (simp; omega) | omega)))).mono ?_
  rintro e w3 ⟨p5, n5, c5, p6, n6, c6, z, rfl, hz1, hz2, O3, hb3⟩
  have hz : z = 15 := by
    have h1 := congrArg List.length hz2
    have h2 : z ≤ 17 := hz1
    simp at h1
    omega
  subst hz
  have m3 := maxStep m2 hb3
  have bw3 := belowStep bw2 s2' hb3
  have s3 := sizeStep hb3
  have a0 := keep1 hb3 a0 la
  have a1 := keep1 hb3 a1 la
  have kc := keep1 hb3 kc sb
  obtain ⟨b0, _, _, _, _, b5, _⟩ := six_of ((hb3.block _ (by simp)).trans (heap_new_at w2 _ _ rfl))
  dsimp only [Ob.ref, Ob.int, Ob.kind, Ob.n, Ob.g, Ob.s] at *
  obtain ⟨jb, joff, rfl, hn5, sj, jc⟩ := key_text O3 0 (by decide)
  replace hn5 : n5 = 1 := hn5
  subst hn5
  have jc : w3.cell? ⟨jb, joff, none⟩ = some (.string ⟨#[66]⟩) := jc
  have la3 : w1.heap.size < w3.heap.size := by omega
  have lb3 : w2.heap.size < w3.heap.size := by omega
  have sb3 : kb < w3.heap.size := by omega
  have s3' : w.heap.size ≤ w3.heap.size := by omega
  clear O3 hb3 bw2 m2 hz1 hz2 la sb
  go_wp2_with fail
  refine (whole_lit _ _ lv4 (by decide) m _ (m3.below (by repeat' (first | (with_reducible exact Below.refl _ _) | (with_reducible refine Below.drew ?_) | (with_reducible refine belowDrewN ?_ _) | (with_reducible refine belowIter ?_ ?_ _ _) | (with_reducible refine Below.setCell ?_ ?_ _) | (with_reducible refine Below.alloc ?_ ?_ _) | (with_reducible refine Below.trans ?_ (Below.mono hb4 ?_)) | (with_reducible refine Below.trans ?_ (Below.mono hb3 ?_)) | (with_reducible refine Below.trans ?_ (Below.mono hb2 ?_)) | (with_reducible refine Below.trans ?_ (Below.mono hb1 ?_)) | (with_reducible refine Below.trans ?_ (Below.mono hbr ?_)) | (with_reducible refine Below.trans ?_ (Below.mono hb ?_)) | (simp; done) | (simp; omega) | omega)))).mono ?_
  rintro e w4 ⟨rfl, hb4⟩
  have m4 := maxStep m3 hb4
  have bw4 := belowStep bw3 s3' hb4
  have s4 := sizeStep hb4
  have s4' : w.heap.size ≤ w4.heap.size := by omega
  have a0 := keep1 hb4 a0 la3
  have a1 := keep1 hb4 a1 la3
  have kc := keep1 hb4 kc sb3
  have b0 := keep1 hb4 b0 lb3
  have b5 := keep1 hb4 b5 lb3
  have jc := keep1 hb4 jc sj
  obtain ⟨_, _, _, _, d4, _, _⟩ := six_of ((hb4.block _ (by simp)).trans (heap_new_at w3 _ _ rfl))
  have ld4 : w3.heap.size < w4.heap.size := by omega
  have sj4 : jb < w4.heap.size := by omega
  have la4 : w1.heap.size < w4.heap.size := by omega
  have lb4 : w2.heap.size < w4.heap.size := by omega
  have sb4 : kb < w4.heap.size := by omega
  clear hb4 bw3 m3
  go_wp2_with fail
  refine (whole_lit _ _ lv5 (by decide) m _ (m4.below (by repeat' (first | (with_reducible exact Below.refl _ _) | (with_reducible refine Below.drew ?_) | (with_reducible refine belowDrewN ?_ _) | (with_reducible refine belowIter ?_ ?_ _ _) | (with_reducible refine Below.setCell ?_ ?_ _) | (with_reducible refine Below.alloc ?_ ?_ _) | (with_reducible refine Below.trans ?_ (Below.mono hb4 ?_)) | (with_reducible refine Below.trans ?_ (Below.mono hb3 ?_)) | (with_reducible refine Below.trans ?_ (Below.mono hb2 ?_)) | (with_reducible refine Below.trans ?_ (Below.mono hb1 ?_)) | (with_reducible refine Below.trans ?_ (Below.mono hbr ?_)) | (with_reducible refine Below.trans ?_ (Below.mono hb ?_)) | (simp; done) | (simp; omega) | omega)))).mono ?_
  rintro e w5 ⟨rfl, hb5⟩
  have m5 := maxStep m4 hb5
  have bw5 := belowStep bw4 s4' hb5
  have s5 := sizeStep hb5
  have s5' : w.heap.size ≤ w5.heap.size := by omega
  have a0 := keep1 hb5 a0 la4
  have a1 := keep1 hb5 a1 la4
  have kc := keep1 hb5 kc sb4
  have b0 := keep1 hb5 b0 lb4
  have b5 := keep1 hb5 b5 lb4
  have jc := keep1 hb5 jc sj4
  have d4 := keep1 hb5 d4 ld4
  have ld5 : w3.heap.size < w5.heap.size := by omega
  have sj5 : jb < w5.heap.size := by omega
  have la5 : w1.heap.size < w5.heap.size := by omega
  have lb5 : w2.heap.size < w5.heap.size := by omega
  have sb5 : kb < w5.heap.size := by omega
  clear hb5 bw4 m4
  go_wp2_with fail
  refine (whole_lit _ _ lv6 (by decide) m _ (m5.below (by repeat' (first | (with_reducible exact Below.refl _ _) | (with_reducible refine Below.drew ?_) | (with_reducible refine belowDrewN ?_ _) | (with_reducible refine belowIter ?_ ?_ _ _) | (with_reducible refine Below.setCell ?_ ?_ _) | (with_reducible refine Below.alloc ?_ ?_ _) | (with_reducible refine Below.trans ?_ (Below.mono hb4 ?_)) | (with_reducible refine Below.trans ?_ (Below.mono hb3 ?_)) | (with_reducible refine Below.trans ?_ (Below.mono hb2 ?_)) | (with_reducible refine Below.trans ?_ (Below.mono hb1 ?_)) | (with_reducible refine Below.trans ?_ (Below.mono hbr ?_)) | (with_reducible refine Below.trans ?_ (Below.mono hb ?_)) | (simp; done) | (simp; omega) | omega)))).mono ?_
  rintro e w6 ⟨rfl, hb6⟩
  have m6 := maxStep m5 hb6
  have bw6 := belowStep bw5 s5' hb6
  have s6 := sizeStep hb6
  have s6' : w.heap.size ≤ w6.heap.size := by omega
  have a0 := keep1 hb6 a0 la5
  have a1 := keep1 hb6 a1 la5
  have kc := keep1 hb6 kc sb5
  have b0 := keep1 hb6 b0 lb5
  have b5 := keep1 hb6 b5 lb5
  have jc := keep1 hb6 jc sj5
  have d4 := keep1 hb6 d4 ld5
  have ld6 : w3.heap.size < w6.heap.size := by omega
  have sj6 : jb < w6.heap.size := by omega
  have la6 : w1.heap.size < w6.heap.size := by omega
  have lb6 : w2.heap.size < w6.heap.size := by omega
  have sb6 : kb < w6.heap.size := by omega
  clear hb6 bw5 m5
  go_wp2_with fail
  refine (whole_lit _ _ lv7 (by decide) m _ (m6.below (by repeat' (first | (with_reducible exact Below.refl _ _) | (with_reducible refine Below.drew ?_) | (with_reducible refine belowDrewN ?_ _) | (with_reducible refine belowIter ?_ ?_ _ _) | (with_reducible refine Below.setCell ?_ ?_ _) | (with_reducible refine Below.alloc ?_ ?_ _) | (with_reducible refine Below.trans ?_ (Below.mono hb4 ?_)) | (with_reducible refine Below.trans ?_ (Below.mono hb3 ?_)) | (with_reducible refine Below.trans ?_ (Below.mono hb2 ?_)) | (with_reducible refine Below.trans ?_ (Below.mono hb1 ?_)) | (with_reducible refine Below.trans ?_ (Below.mono hbr ?_)) | (with_reducible refine Below.trans ?_ (Below.mono hb ?_)) | (simp; done) | (simp; omega) | omega)))).mono ?_
  rintro e w7 ⟨rfl, hb7⟩
  have m7 := maxStep m6 hb7
  have bw7 := belowStep bw6 s6' hb7
  have s7 := sizeStep hb7
  have s7' : w.heap.size ≤ w7.heap.size := by omega
  have a0 := keep1 hb7 a0 la6
  have a1 := keep1 hb7 a1 la6
  have kc := keep1 hb7 kc sb6
  have b0 := keep1 hb7 b0 lb6
  have b5 := keep1 hb7 b5 lb6
  have jc := keep1 hb7 jc sj6
  have d4 := keep1 hb7 d4 ld6
  have ld7 : w3.heap.size < w7.heap.size := by omega
  have sj7 : jb < w7.heap.size := by omega
  have la7 : w1.heap.size < w7.heap.size := by omega
  have lb7 : w2.heap.size < w7.heap.size := by omega
  have sb7 : kb < w7.heap.size := by omega
  clear hb7 bw6 m6
  go_wp2_with fail
  refine (many_lit _ _ lv8 (by decide) m _ (m7.below (by repeat' (first | (with_reducible exact Below.refl _ _) | (with_reducible refine Below.drew ?_) | (with_reducible refine belowDrewN ?_ _) | (with_reducible refine belowIter ?_ ?_ _ _) | (with_reducible refine Below.setCell ?_ ?_ _) | (with_reducible refine Below.alloc ?_ ?_ _) | (with_reducible refine Below.trans ?_ (Below.mono hb4 ?_)) | (with_reducible refine Below.trans ?_ (Below.mono hb3 ?_)) | (with_reducible refine Below.trans ?_ (Below.mono hb2 ?_)) | (with_reducible refine Below.trans ?_ (Below.mono hb1 ?_)) | (with_reducible refine Below.trans ?_ (Below.mono hbr ?_)) | (with_reducible refine Below.trans ?_ (Below.mono hb ?_)) | (simp; done) | (simp; omega) | omega)))).mono ?_
  rintro e w8 ⟨rfl, hb8⟩
  have bw8 := belowStep bw7 s7' hb8
  have s8 := sizeStep hb8
  have s8' : w.heap.size ≤ w8.heap.size := by omega
  have a0 := keep1 hb8 a0 la7
  have a1 := keep1 hb8 a1 la7
  have kc := keep1 hb8 kc sb7
  have b0 := keep1 hb8 b0 lb7
  have b5 := keep1 hb8 b5 lb7
  have jc := keep1 hb8 jc sj7
  have d4 := keep1 hb8 d4 ld7
  have la8 : w1.heap.size < w8.heap.size := by omega
  have lb8 : w2.heap.size < w8.heap.size := by omega
  have ld8 : w3.heap.size < w8.heap.size := by omega
  have sb8 : kb < w8.heap.size := by omega
  have sj8 : jb < w8.heap.size := by omega
  clear hb8 bw7 m7
  go_wp2
  all_goals go_ret
  all_goals exact ⟨rfl, by (have hb := bw8; exact (by repeat' (first | (with_reducible exact Below.refl _ _) | (with_reducible refine Below.drew ?_) | (with_reducible refine belowDrewN ?_ _) | (with_reducible refine belowIter ?_ ?_ _ _) | (with_reducible refine Below.setCell ?_ ?_ _) | (with_reducible refine Below.alloc ?_ ?_ _) | (with_reducible refine Below.trans ?_ (Below.mono hb4 ?_)) | (with_reducible refine Below.trans ?_ (Below.mono hb3 ?_)) | (with_reducible refine Below.trans ?_ (Below.mono hb2 ?_)) | (with_reducible refine Below.trans ?_ (Below.mono hb1 ?_)) | (with_reducible refine Below.trans ?_ (Below.mono hbr ?_)) | (with_reducible refine Below.trans ?_ (Below.mono hb ?_)) | (simp; done) | (simp; omega) | omega)))⟩
end Go.Proofs.YtpadlepdgnlgnaaGreatDoor
