/- The walks of the mapping's reader: rows, parts, all sections. -/
import Derived.Test.YtibffdaljmmdoaaGreatDoorGRdA
import Derived.Recover
import Derived.Defers
import Derived.Test.YtibffdaljmmdoaaGreatDoorGCm
set_option linter.all false
/- The reader of a character code mapping: a row of a section. -/
namespace Go.Proofs.YtibffdaljmmdoaaGreatDoor
open Go.RowKit Fo Go.Maps

/-- What a step turns that reads tokens. -/
def ConsP (r : Nat) (s : ByteArray) (mb : Nat) (w : World) (R : Res (CS × L)) (e : Ending) (w' : World) : Prop :=
  match R with
  | .good (σ, l) => e = .returned (.tuple #[]) ∧ ∃ a, a ≤ s.size ∧ l = s.data.toList.drop a ∧ SQ w' r s a mb σ ∧ σ.told ≤ 4096 ∧ Bes2 r mb w w'
  | .bad k => e = .panicked [{ v := .iface 77 (.int .i64 k), recovered := false }] ∧ Bes2 r mb w w'
theorem spanC_keep {σ σ' : CS} {t : Tok} {x y : Int} {l l' : L} (h : spanC σ t l = .good (σ', x, y, l')) : σ'.told = σ.told ∧ σ'.m = σ.m ∧ 0 ≤ x ∧ x ≤ y ∧ y ≤ 65535 ∧ l'.length ≤ l.length := by
  unfold spanC at h
  split at h
  · cases h
  rename_i σ1 c h1
  split at h
  · cases h
  rename_i t2 r h2
  split at h
  · cases h
  rename_i σ2 b h3
  split at h
  · cases h
    have k1 := codeC_keep h1
    have k2 := codeC_keep h3
    have := (nextS_shorter h2).1
    exact ⟨k2.1.trans k1.1, k2.2.1.trans k1.2.1, k1.2.2.1, by assumption, k2.2.2.2, by omega⟩
  · cases h
theorem sevC_len : ∀ {n : Nat} {l : L} {acc xs : List L} {l' : L}, sevC n l acc = .good (xs, l') → l'.length ≤ l.length
  | 0, l, acc, xs, l', h => by cases h
  | n + 1, l, acc, xs, l', h => by
    rw [sevC] at h
    split at h
    · cases h
    rename_i t r h1
    have := (nextS_shorter h1).1
    split at h
    · cases h; omega
    · split at h
      · cases h
      · have := sevC_len h; omega
theorem tellAllC_told : ∀ {xs : List L} {c : Int} {σ σ' : CS}, tellAllC c xs σ = .good σ' → σ.told ≤ 4096 → σ'.told ≤ 4096
  | [], c, σ, σ', h, ht => by cases h; exact ht
  | x :: xs, c, σ, σ', h, ht => by
    rw [tellAllC] at h
    split at h
    · cases h
    · rename_i σ1 h1
      exact tellAllC_told h (tellC_told h1)
theorem rowC_len {p : Nat} {t : Tok} {l l' : L} {σ σ' : CS} (h : rowC p t l σ = .good (σ', l')) : l'.length ≤ l.length := by
  unfold rowC at h
  split at h
  · split at h
    · cases h
    split at h
    · cases h
    rename_i t2 r h2
    have := (nextS_shorter h2).1
    split at h
    · cases h
    split at h
    · cases h
    · cases h; omega
  · split at h
    · cases h
    rename_i σ1 a b r h1
    have k1 := (spanC_keep h1).2.2.2.2.2
    split at h
    · cases h; omega
    split at h
    · cases h
    rename_i t2 r2 h2
    have := (nextS_shorter h2).1
    split at h
    · split at h
      · cases h
      rename_i xs r3 h3
      have := sevC_len h3
      split at h
      · split at h
        · cases h
        · cases h; omega
      · cases h
    · split at h
      · cases h
      · cases h; omega
theorem textC_len {t : Tok} {x : L} (h : textC t = .good x) : x.length ≤ 4 * t.s.length := by
  unfold textC at h
  split at h
  · split at h
    · cases h
    · rename_i y hy
      cases h
      unfold utfS at hy
      split at hy
      · cases hy
      · have := text16_len hy
        have := unitsN_len t.s
        omega
  · cases h
set_option maxRecDepth 100000 in
set_option maxHeartbeats 1000000 in
theorem row0_in (r : Nat) (s : ByteArray) (a p q mb : Nat) (σ : CS) (t : Tok) (ha : a ≤ s.size) (hs : s.size ≤ 1000000000) (m : Int) (w : World) (hm : MaxW w m) (hS : SQ w r s a mb σ) (ht : σ.told ≤ 4096) :
    Calls Tryz.prog 68 #[.pointer (some ⟨r, 0, none⟩), .string ⟨(partN 0).toArray⟩, .agg #[.int .i64 t.kind, .int .i64 p, .int .i64 q, .int .i64 t.n, .string ⟨t.s.toArray⟩]] w (ConsP r s mb w (rowC 0 t (s.data.toList.drop a) σ)) := by
  have HSP := Lib.hid (fun W hm hS => span_in r s a p q mb σ t ha hs m W hm hS)
  have hlt := hS.q.lt
  have hltm := hS.m.lt
  unfold partN
  obtain ⟨R, hR⟩ : ∃ R, rowC 0 t (s.data.toList.drop a) σ = R := ⟨_, rfl⟩
  rw [hR]
  unfold rowC at hR
  rw [if_neg (by decide)] at hR
  have HK := Lib.hid (fun σ' x y l' (h : spanC σ t (s.data.toList.drop a) = .good (σ', x, y, l')) => spanC_keep h)
  obtain ⟨T, hT⟩ : ∃ T, spanC σ t (s.data.toList.drop a) = T := ⟨_, rfl⟩
  rw [hT] at hR HSP HK
  clear hT
  go_enter Tryz.func68, Tryz.ntmps68
  go_wp2_with fail
  refine (HSP.out _ (hm.below (by repeat' (first | (with_reducible first | exact Below.refl _ _ | refine Below.drew ?_ | refine belowDrewN ?_ _ | refine belowIter ?_ ?_ _ _ | refine Below.setCell ?_ ?_ _ | refine Below.alloc ?_ ?_ _ | refine bT hb4 ?_ ?_ | refine bT hb3 ?_ ?_ | refine bT hb2 ?_ ?_ | refine bT hb1 ?_ ?_ | refine bT hbr ?_ ?_ | refine bT hb ?_ ?_) | (simp; done) | (simp; omega) | omega))) (hS.below (by repeat' (first | (with_reducible first | exact Below.refl _ _ | refine Below.drew ?_ | refine belowDrewN ?_ _ | refine belowIter ?_ ?_ _ _ | refine Below.setCell ?_ ?_ _ | refine Below.alloc ?_ ?_ _ | refine bT hb4 ?_ ?_ | refine bT hb3 ?_ ?_ | refine bT hb2 ?_ ?_ | refine bT hb1 ?_ ?_ | refine bT hbr ?_ ?_ | refine bT hb ?_ ?_) | (simp; done) | (simp; omega) | omega)))).mono ?_
  cases T with
  | bad k =>
    subst hR
    rintro e w1 ⟨rfl, hs1⟩
    go_wp2
    exact ⟨rfl, rfl, (Bes2.of_below (show Below w.heap.size w (w.alloc _) from (by repeat' (first | (with_reducible first | exact Below.refl _ _ | refine Below.drew ?_ | refine belowDrewN ?_ _ | refine belowIter ?_ ?_ _ _ | refine Below.setCell ?_ ?_ _ | refine Below.alloc ?_ ?_ _ | refine bT hb4 ?_ ?_ | refine bT hb3 ?_ ?_ | refine bT hb2 ?_ ?_ | refine bT hb1 ?_ ?_ | refine bT hbr ?_ ?_ | refine bT hb ?_ ?_) | (simp; done) | (simp; omega) | omega)))).trans hs1⟩
  | good y =>
    obtain ⟨σ1, x, y, l1⟩ := y
    simp only [if_true] at hR
    subst hR
    rintro e w1 ⟨rfl, a', h1, h2, hS1, hs1⟩
    have h3 := (HK.out _ _ _ _ rfl).1
    go_wp2
    go_end0
    exact ⟨rfl, a', h1, h2, hS1, by rw [h3]; exact ht, (Bes2.of_below (show Below w.heap.size w (w.alloc _) from (by repeat' (first | (with_reducible first | exact Below.refl _ _ | refine Below.drew ?_ | refine belowDrewN ?_ _ | refine belowIter ?_ ?_ _ _ | refine Below.setCell ?_ ?_ _ | refine Below.alloc ?_ ?_ _ | refine bT hb4 ?_ ?_ | refine bT hb3 ?_ ?_ | refine bT hb2 ?_ ?_ | refine bT hb1 ?_ ?_ | refine bT hbr ?_ ?_ | refine bT hb ?_ ?_) | (simp; done) | (simp; omega) | omega)))).trans hs1⟩
set_option maxRecDepth 100000 in
set_option maxHeartbeats 2000000 in
theorem row1_in (r : Nat) (s : ByteArray) (a p q mb : Nat) (σ : CS) (t : Tok) (ha : a ≤ s.size) (hs : s.size ≤ 1000000000) (m : Int) (w : World) (hm : MaxW w m) (hS : SQ w r s a mb σ) (ht : σ.told ≤ 4096) :
    Calls Tryz.prog 68 #[.pointer (some ⟨r, 0, none⟩), .string ⟨(partN 1).toArray⟩, .agg #[.int .i64 t.kind, .int .i64 p, .int .i64 q, .int .i64 t.n, .string ⟨t.s.toArray⟩]] w (ConsP r s mb w (rowC 1 t (s.data.toList.drop a) σ)) := by
  have hlt := hS.q.lt
  have hltm := hS.m.lt
  have hnr := hm.neQ hS.q
  have hnm := hm.neM hS.m
  unfold partN
  obtain ⟨R, hR⟩ : ∃ R, rowC 1 t (s.data.toList.drop a) σ = R := ⟨_, rfl⟩
  rw [hR]
  unfold rowC at hR
  rw [if_pos rfl] at hR
  cases h1 : codeC σ t with
  | bad k =>
    rw [h1] at hR
    subst hR
    have H1 := Lib.hid h1
    clear h1
    go_enter Tryz.func68, Tryz.ntmps68
    go_wp2_with fail
    refine (codeS_in r s a p q mb σ t _ (hS.below (by repeat' (first | (with_reducible first | exact Below.refl _ _ | refine Below.drew ?_ | refine belowDrewN ?_ _ | refine belowIter ?_ ?_ _ _ | refine Below.setCell ?_ ?_ _ | refine Below.alloc ?_ ?_ _ | refine bT hb4 ?_ ?_ | refine bT hb3 ?_ ?_ | refine bT hb2 ?_ ?_ | refine bT hb1 ?_ ?_ | refine bT hbr ?_ ?_ | refine bT hb ?_ ?_) | (simp; done) | (simp; omega) | omega)))).mono ?_
    rintro e w1 (⟨σ', c, h, rfl, hS1, hs1⟩ | ⟨k', h, rfl, hs1⟩)
    · rw [H1.out] at h; cases h
    rw [H1.out] at h; cases h
    go_wp2
    exact ⟨rfl, rfl, (Bes2.of_below (show Below w.heap.size w (w.alloc _) from (by repeat' (first | (with_reducible first | exact Below.refl _ _ | refine Below.drew ?_ | refine belowDrewN ?_ _ | refine belowIter ?_ ?_ _ _ | refine Below.setCell ?_ ?_ _ | refine Below.alloc ?_ ?_ _ | refine bT hb4 ?_ ?_ | refine bT hb3 ?_ ?_ | refine bT hb2 ?_ ?_ | refine bT hb1 ?_ ?_ | refine bT hbr ?_ ?_ | refine bT hb ?_ ?_) | (simp; done) | (simp; omega) | omega)))).trans (hs1.any mb)⟩
  | good y =>
    obtain ⟨σ1, c⟩ := y
    rw [h1] at hR
    dsimp only at hR
    have H1 := Lib.hid h1
    obtain ⟨k1, k2, k3, k4⟩ := codeC_keep h1
    have kc : c ≤ 1000000 := by omega
    have kt : σ1.told ≤ 4096 := by omega
    have K1 := Lib.hid k1
    clear h1 k1 k2 k4
    cases h2 : nextS (s.data.toList.drop a) with
    | bad k =>
      rw [h2] at hR
      subst hR
      have HW := Lib.hid (fun W hm hr hmb => within_bad r s a σ1.size σ1.told mb k ha hs m W hm hr hmb h2)
      clear h2
      go_enter Tryz.func68, Tryz.ntmps68
      go_wp2_with fail
      refine (codeS_in r s a p q mb σ t _ (hS.below (by repeat' (first | (with_reducible first | exact Below.refl _ _ | refine Below.drew ?_ | refine belowDrewN ?_ _ | refine belowIter ?_ ?_ _ _ | refine Below.setCell ?_ ?_ _ | refine Below.alloc ?_ ?_ _ | refine bT hb4 ?_ ?_ | refine bT hb3 ?_ ?_ | refine bT hb2 ?_ ?_ | refine bT hb1 ?_ ?_ | refine bT hbr ?_ ?_ | refine bT hb ?_ ?_) | (simp; done) | (simp; omega) | omega)))).mono ?_
      rintro e w1 (⟨σ', c, h, rfl, hS1, hs1⟩ | ⟨k', h, rfl, hs1⟩)
      rotate_left
      · rw [H1.out] at h; cases h
      rw [H1.out] at h; cases h
      have hm1 : MaxW w1 m := (hm.below (w' := w.alloc (.cells #[.int .i64 t.kind, .int .i64 p, .int .i64 q, .int .i64 t.n, .string ⟨t.s.toArray⟩] 59)) (by repeat' (first | (with_reducible first | exact Below.refl _ _ | refine Below.drew ?_ | refine belowDrewN ?_ _ | refine belowIter ?_ ?_ _ _ | refine Below.setCell ?_ ?_ _ | refine Below.alloc ?_ ?_ _ | refine bT hb4 ?_ ?_ | refine bT hb3 ?_ ?_ | refine bT hb2 ?_ ?_ | refine bT hb1 ?_ ?_ | refine bT hbr ?_ ?_ | refine bT hb ?_ ?_) | (simp; done) | (simp; omega) | omega))).bes2 hs1 hnr hnr
      have hz1 := hs1.size
      simp at hz1
      have HB1 := Lib.hid ((Bes2.of_below (show Below w.heap.size w (w.alloc (.cells #[.int .i64 t.kind, .int .i64 p, .int .i64 q, .int .i64 t.n, .string ⟨t.s.toArray⟩] 59)) from (by repeat' (first | (with_reducible first | exact Below.refl _ _ | refine Below.drew ?_ | refine belowDrewN ?_ _ | refine belowIter ?_ ?_ _ _ | refine Below.setCell ?_ ?_ _ | refine Below.alloc ?_ ?_ _ | refine bT hb4 ?_ ?_ | refine bT hb3 ?_ ?_ | refine bT hb2 ?_ ?_ | refine bT hb1 ?_ ?_ | refine bT hbr ?_ ?_ | refine bT hb ?_ ?_) | (simp; done) | (simp; omega) | omega)))).trans (hs1.any mb))
      go_wp2_with fail
      refine (HW.out _ hm1 hS1.q (by omega)).mono ?_
      rintro e w2 ⟨rfl, hs2⟩
      go_wp2
      exact ⟨rfl, rfl, HB1.out.trans (hs2.any mb)⟩
    | good y =>
      obtain ⟨t2, l2⟩ := y
      rw [h2] at hR
      dsimp only at hR
      obtain ⟨p2, q2, n1, n2, n3, n4, n5, rfl⟩ := nextS_pos h2 ha
      have hlen := tok_len n1
      have HW := Lib.hid (fun W hm hr hmb => within_good r s a p2 q2 σ1.size σ1.told mb t2 ha hs m W hm hr hmb n1 n2 n3 n4)
      clear h2 n1 n2 n3 n4
      cases hx : textC t2 with
      | bad k =>
        rw [hx] at hR
        subst hR
        have HTX := Lib.hid (fun W => text_bad t2 p2 q2 k hlen hx W)
        clear hx
        go_enter Tryz.func68, Tryz.ntmps68
        go_wp2_with fail
        refine (codeS_in r s a p q mb σ t _ (hS.below (by repeat' (first | (with_reducible first | exact Below.refl _ _ | refine Below.drew ?_ | refine belowDrewN ?_ _ | refine belowIter ?_ ?_ _ _ | refine Below.setCell ?_ ?_ _ | refine Below.alloc ?_ ?_ _ | refine bT hb4 ?_ ?_ | refine bT hb3 ?_ ?_ | refine bT hb2 ?_ ?_ | refine bT hb1 ?_ ?_ | refine bT hbr ?_ ?_ | refine bT hb ?_ ?_) | (simp; done) | (simp; omega) | omega)))).mono ?_
        rintro e w1 (⟨σ', c, h, rfl, hS1, hs1⟩ | ⟨k', h, rfl, hs1⟩)
        rotate_left
        · rw [H1.out] at h; cases h
        rw [H1.out] at h; cases h
        have hm1 : MaxW w1 m := (hm.below (w' := w.alloc (.cells #[.int .i64 t.kind, .int .i64 p, .int .i64 q, .int .i64 t.n, .string ⟨t.s.toArray⟩] 59)) (by repeat' (first | (with_reducible first | exact Below.refl _ _ | refine Below.drew ?_ | refine belowDrewN ?_ _ | refine belowIter ?_ ?_ _ _ | refine Below.setCell ?_ ?_ _ | refine Below.alloc ?_ ?_ _ | refine bT hb4 ?_ ?_ | refine bT hb3 ?_ ?_ | refine bT hb2 ?_ ?_ | refine bT hb1 ?_ ?_ | refine bT hbr ?_ ?_ | refine bT hb ?_ ?_) | (simp; done) | (simp; omega) | omega))).bes2 hs1 hnr hnr
        have hz1 := hs1.size
        simp at hz1
        have HB1 := Lib.hid ((Bes2.of_below (show Below w.heap.size w (w.alloc (.cells #[.int .i64 t.kind, .int .i64 p, .int .i64 q, .int .i64 t.n, .string ⟨t.s.toArray⟩] 59)) from (by repeat' (first | (with_reducible first | exact Below.refl _ _ | refine Below.drew ?_ | refine belowDrewN ?_ _ | refine belowIter ?_ ?_ _ _ | refine Below.setCell ?_ ?_ _ | refine Below.alloc ?_ ?_ _ | refine bT hb4 ?_ ?_ | refine bT hb3 ?_ ?_ | refine bT hb2 ?_ ?_ | refine bT hb1 ?_ ?_ | refine bT hbr ?_ ?_ | refine bT hb ?_ ?_) | (simp; done) | (simp; omega) | omega)))).trans (hs1.any mb))
        go_wp2_with fail
        refine (HW.out _ hm1 hS1.q (by omega)).mono ?_
        rintro e w2 ⟨rfl, hr2, hs2⟩
        have hS2 : SQ w2 r s q2 mb σ1 := ⟨hr2, hS1.m.bes hs2 (hS1.m.ne hS1.q)⟩
        unfold ctkV
        go_wp2_with fail
        refine (HTX.out _).mono ?_
        rintro e w3 ⟨rfl, hb3⟩
        go_wp2
        exact ⟨rfl, rfl, (HB1.out.trans (hs2.any mb)).below hb3⟩
      | good x =>
        rw [hx] at hR
        dsimp only at hR
        have HTX := Lib.hid (fun W => text_good t2 p2 q2 x hlen hx W)
        have hxl := Lib.hid (textC_len hx)
        clear hx
        have HTE := Lib.hid (fun W hS => tellS_in r s q2 mb σ1 c x k3 kc (by have := hxl.out; omega) W hS kt)
        obtain ⟨T, hT⟩ : ∃ T, tellC σ1 c x = T := ⟨_, rfl⟩
        rw [hT] at hR HTE
        clear hT
        go_enter Tryz.func68, Tryz.ntmps68
        go_wp2_with fail
        refine (codeS_in r s a p q mb σ t _ (hS.below (by repeat' (first | (with_reducible first | exact Below.refl _ _ | refine Below.drew ?_ | refine belowDrewN ?_ _ | refine belowIter ?_ ?_ _ _ | refine Below.setCell ?_ ?_ _ | refine Below.alloc ?_ ?_ _ | refine bT hb4 ?_ ?_ | refine bT hb3 ?_ ?_ | refine bT hb2 ?_ ?_ | refine bT hb1 ?_ ?_ | refine bT hbr ?_ ?_ | refine bT hb ?_ ?_) | (simp; done) | (simp; omega) | omega)))).mono ?_
        rintro e w1 (⟨σ', c, h, rfl, hS1, hs1⟩ | ⟨k', h, rfl, hs1⟩)
        rotate_left
        · rw [H1.out] at h; cases h
        rw [H1.out] at h; cases h
        have hm1 : MaxW w1 m := (hm.below (w' := w.alloc (.cells #[.int .i64 t.kind, .int .i64 p, .int .i64 q, .int .i64 t.n, .string ⟨t.s.toArray⟩] 59)) (by repeat' (first | (with_reducible first | exact Below.refl _ _ | refine Below.drew ?_ | refine belowDrewN ?_ _ | refine belowIter ?_ ?_ _ _ | refine Below.setCell ?_ ?_ _ | refine Below.alloc ?_ ?_ _ | refine bT hb4 ?_ ?_ | refine bT hb3 ?_ ?_ | refine bT hb2 ?_ ?_ | refine bT hb1 ?_ ?_ | refine bT hbr ?_ ?_ | refine bT hb ?_ ?_) | (simp; done) | (simp; omega) | omega))).bes2 hs1 hnr hnr
        have hz1 := hs1.size
        simp at hz1
        have HB1 := Lib.hid ((Bes2.of_below (show Below w.heap.size w (w.alloc (.cells #[.int .i64 t.kind, .int .i64 p, .int .i64 q, .int .i64 t.n, .string ⟨t.s.toArray⟩] 59)) from (by repeat' (first | (with_reducible first | exact Below.refl _ _ | refine Below.drew ?_ | refine belowDrewN ?_ _ | refine belowIter ?_ ?_ _ _ | refine Below.setCell ?_ ?_ _ | refine Below.alloc ?_ ?_ _ | refine bT hb4 ?_ ?_ | refine bT hb3 ?_ ?_ | refine bT hb2 ?_ ?_ | refine bT hb1 ?_ ?_ | refine bT hbr ?_ ?_ | refine bT hb ?_ ?_) | (simp; done) | (simp; omega) | omega)))).trans (hs1.any mb))
        go_wp2_with fail
        refine (HW.out _ hm1 hS1.q (by omega)).mono ?_
        rintro e w2 ⟨rfl, hr2, hs2⟩
        have hS2 : SQ w2 r s q2 mb σ1 := ⟨hr2, hS1.m.bes hs2 (hS1.m.ne hS1.q)⟩
        unfold ctkV
        go_wp2_with fail
        refine (HTX.out _).mono ?_
        rintro e w3 ⟨rfl, hb3⟩
        have hS3 := hS2.below hb3
        have HB3 := Lib.hid ((HB1.out.trans (hs2.any mb)).below hb3)
        go_wp2_with fail
        refine (HTE.out _ hS3).mono ?_
        cases T with
        | bad k =>
          subst hR
          rintro e w4 ⟨rfl, hs4⟩
          go_wp2
          exact ⟨rfl, rfl, HB3.out.trans hs4⟩
        | good σ2 =>
          subst hR
          rintro e w4 ⟨rfl, hS4, ht4, hs4⟩
          go_wp2
          go_end0
          exact ⟨rfl, q2, n5, rfl, hS4, ht4, HB3.out.trans hs4⟩
end Go.Proofs.YtibffdaljmmdoaaGreatDoor
/- The reader of a character code mapping: a row of ranges. -/
namespace Go.Proofs.YtibffdaljmmdoaaGreatDoor
open Go.RowKit Fo Go.Maps

theorem cownS_cell {w : World} {B : Nat} {p : Option Addr} {n c : Nat} {ss : List L} (h : cownS w B (.slice p n c) ss) (k : Nat) (hk : k < ss.length) :
    ∃ g, p = some ⟨g, 0, none⟩ ∧ B ≤ g ∧ g < w.heap.size ∧ w.cell? ⟨g, k, none⟩ = some (.string ⟨(ss[k]).toArray⟩) := by
  have h0 := h
  rcases h.2 with ⟨h1, h2⟩ | ⟨g, cap, cur, h1, h2, h3, h4, h5, h6, h7⟩
  · cases h1; omega
  · cases h1
    refine ⟨g, rfl, h2, (Array.getElem?_eq_some_iff.1 h3).1, ?_⟩
    have := World.ownsRow.cellAt h0 k (by simpa using hk)
    simpa [hk, strV] using this
theorem sevC_short : ∀ {n : Nat} {l : L} {acc xs : List L} {l' : L}, sevC n l acc = .good (xs, l') → (∀ v ∈ acc, v.length ≤ 131068) → ∀ v ∈ xs, v.length ≤ 131068
  | 0, l, acc, xs, l', h, _ => by cases h
  | n + 1, l, acc, xs, l', h, ha => by
    rw [sevC] at h
    split at h
    · cases h
    rename_i t r h1
    have ht := cnextT_short (nextS_good h1).1
    split at h
    · cases h; exact ha
    · split at h
      · cases h
      · rename_i x hx
        have hxl := textC_len hx
        refine sevC_short h (fun v hv => ?_)
        simp only [List.mem_append, List.mem_singleton] at hv
        rcases hv with hv | rfl
        · exact ha v hv
        · omega
theorem tellAll_cons {c : Int} {xs : List L} {k : Nat} (hk : k < xs.length) (σ : CS) : tellAllC (c + (k : Int)) (xs.drop k) σ = match tellC σ (c + (k : Int)) xs[k] with | .bad e => .bad e | .good σ' => tellAllC (c + ((k + 1 : Nat) : Int)) (xs.drop (k + 1)) σ' := by
  rw [List.drop_eq_getElem_cons hk, tellAllC]
  have e : c + (k : Int) + 1 = c + ((k + 1 : Nat) : Int) := by omega
  rw [e]
  cases tellC σ (c + (k : Int)) xs[k] <;> rfl
theorem spanC_pos {s : ByteArray} {a : Nat} {σ σ' : CS} {t : Tok} {x y : Int} {l' : L} (h : spanC σ t (s.data.toList.drop a) = .good (σ', x, y, l')) (ha : a ≤ s.size) : ∃ b, b ≤ s.size ∧ l' = s.data.toList.drop b := by
  unfold spanC at h
  split at h
  · cases h
  split at h
  · cases h
  rename_i t2 r h2
  split at h
  · cases h
  split at h
  · cases h
    obtain ⟨p, q, _, _, _, _, h5, h6⟩ := nextS_pos h2 ha
    exact ⟨q, h5, h6⟩
  · cases h
set_option maxRecDepth 100000 in
set_option maxHeartbeats 2000000 in
theorem row2_in (r : Nat) (s : ByteArray) (a p q mb : Nat) (σ : CS) (t : Tok) (ha : a ≤ s.size) (hs : s.size ≤ 1000000000) (m : Int) (w : World) (hm : MaxW w m) (hS : SQ w r s a mb σ) (ht : σ.told ≤ 4096) :
    Calls Tryz.prog 68 #[.pointer (some ⟨r, 0, none⟩), .string ⟨(partN 2).toArray⟩, .agg #[.int .i64 t.kind, .int .i64 p, .int .i64 q, .int .i64 t.n, .string ⟨t.s.toArray⟩]] w (ConsP r s mb w (rowC 2 t (s.data.toList.drop a) σ)) := by
  have hlt := hS.q.lt
  have hltm := hS.m.lt
  have hnr := hm.neQ hS.q
  have hnm := hm.neM hS.m
  have HSP := Lib.hid (fun W hm hS => span_in r s a p q mb σ t ha hs m W hm hS)
  unfold partN
  obtain ⟨R, hR⟩ : ∃ R, rowC 2 t (s.data.toList.drop a) σ = R := ⟨_, rfl⟩
  rw [hR]
  unfold rowC at hR
  rw [if_neg (by decide)] at hR
  cases hT : spanC σ t (s.data.toList.drop a) with
  | bad k =>
    rw [hT] at hR HSP
    subst hR
    clear hT
    go_enter Tryz.func68, Tryz.ntmps68
    go_wp2_with fail
    refine (HSP.out _ (hm.below (by repeat' (first | (with_reducible first | exact Below.refl _ _ | refine Below.drew ?_ | refine belowDrewN ?_ _ | refine belowIter ?_ ?_ _ _ | refine Below.setCell ?_ ?_ _ | refine Below.alloc ?_ ?_ _ | refine bT hb4 ?_ ?_ | refine bT hb3 ?_ ?_ | refine bT hb2 ?_ ?_ | refine bT hb1 ?_ ?_ | refine bT hbr ?_ ?_ | refine bT hb ?_ ?_) | (simp; done) | (simp; omega) | omega))) (hS.below (by repeat' (first | (with_reducible first | exact Below.refl _ _ | refine Below.drew ?_ | refine belowDrewN ?_ _ | refine belowIter ?_ ?_ _ _ | refine Below.setCell ?_ ?_ _ | refine Below.alloc ?_ ?_ _ | refine bT hb4 ?_ ?_ | refine bT hb3 ?_ ?_ | refine bT hb2 ?_ ?_ | refine bT hb1 ?_ ?_ | refine bT hbr ?_ ?_ | refine bT hb ?_ ?_) | (simp; done) | (simp; omega) | omega)))).mono ?_
    rintro e w1 ⟨rfl, hs1⟩
    go_wp2
    exact ⟨rfl, rfl, (Bes2.of_below (show Below w.heap.size w (w.alloc _) from (by repeat' (first | (with_reducible first | exact Below.refl _ _ | refine Below.drew ?_ | refine belowDrewN ?_ _ | refine belowIter ?_ ?_ _ _ | refine Below.setCell ?_ ?_ _ | refine Below.alloc ?_ ?_ _ | refine bT hb4 ?_ ?_ | refine bT hb3 ?_ ?_ | refine bT hb2 ?_ ?_ | refine bT hb1 ?_ ?_ | refine bT hbr ?_ ?_ | refine bT hb ?_ ?_) | (simp; done) | (simp; omega) | omega)))).trans hs1⟩
  | good y =>
    obtain ⟨σ1, x, y, l1⟩ := y
    obtain ⟨k1, k2, k3, k4, k5, k6⟩ := spanC_keep hT
    have hex := spanC_pos hT ha
    rw [hT] at hR HSP
    dsimp only at hR
    rw [if_neg (by decide)] at hR
    clear hT
    have kt : σ1.told ≤ 4096 := by omega
    -- where the reader then stands
    obtain ⟨b, hb, rfl⟩ := hex
    have HAE : Hid (∀ a1, a1 ≤ s.size → s.data.toList.drop b = s.data.toList.drop a1 → a1 = b) := Lib.hid (fun a1 ha1 e1 => by
      have h2 : s.data.toList.length = s.size := by simp
      have := congrArg List.length e1
      rw [List.length_drop, List.length_drop, h2] at this; omega)
    cases h2 : nextS (s.data.toList.drop b) with
    | bad k =>
      rw [h2] at hR
      subst hR
      have HW := Lib.hid (fun W hm hr hmb => within_bad r s b σ1.size σ1.told mb k hb hs m W hm hr hmb h2)
      clear h2 k1 k2
      go_enter Tryz.func68, Tryz.ntmps68
      go_wp2_with fail
      refine (HSP.out _ (hm.below (by repeat' (first | (with_reducible first | exact Below.refl _ _ | refine Below.drew ?_ | refine belowDrewN ?_ _ | refine belowIter ?_ ?_ _ _ | refine Below.setCell ?_ ?_ _ | refine Below.alloc ?_ ?_ _ | refine bT hb4 ?_ ?_ | refine bT hb3 ?_ ?_ | refine bT hb2 ?_ ?_ | refine bT hb1 ?_ ?_ | refine bT hbr ?_ ?_ | refine bT hb ?_ ?_) | (simp; done) | (simp; omega) | omega))) (hS.below (by repeat' (first | (with_reducible first | exact Below.refl _ _ | refine Below.drew ?_ | refine belowDrewN ?_ _ | refine belowIter ?_ ?_ _ _ | refine Below.setCell ?_ ?_ _ | refine Below.alloc ?_ ?_ _ | refine bT hb4 ?_ ?_ | refine bT hb3 ?_ ?_ | refine bT hb2 ?_ ?_ | refine bT hb1 ?_ ?_ | refine bT hbr ?_ ?_ | refine bT hb ?_ ?_) | (simp; done) | (simp; omega) | omega)))).mono ?_
      rintro e w1 ⟨rfl, a1, ha1, e1, hS1, hs1⟩
      obtain rfl := HAE.out a1 ha1 e1
      have HB1 := Lib.hid ((Bes2.of_below (show Below w.heap.size w (w.alloc (.cells #[.int .i64 t.kind, .int .i64 p, .int .i64 q, .int .i64 t.n, .string ⟨t.s.toArray⟩] 59)) from (by repeat' (first | (with_reducible first | exact Below.refl _ _ | refine Below.drew ?_ | refine belowDrewN ?_ _ | refine belowIter ?_ ?_ _ _ | refine Below.setCell ?_ ?_ _ | refine Below.alloc ?_ ?_ _ | refine bT hb4 ?_ ?_ | refine bT hb3 ?_ ?_ | refine bT hb2 ?_ ?_ | refine bT hb1 ?_ ?_ | refine bT hbr ?_ ?_ | refine bT hb ?_ ?_) | (simp; done) | (simp; omega) | omega)))).trans hs1)
      have hm1 : MaxW w1 m := hm.bes2 HB1.out hnr hnm
      have hz1 := HB1.out.size
      go_wp2_with fail
      refine (HW.out _ hm1 hS1.q (by omega)).mono ?_
      rintro e w2 ⟨rfl, hs2⟩
      go_wp2
      exact ⟨rfl, rfl, HB1.out.trans (hs2.any mb)⟩
    | good yy =>
      obtain ⟨t2, l2⟩ := yy
      rw [h2] at hR
      dsimp only at hR
      obtain ⟨p2, q2, n1, n2, n3, n4, n5, rfl⟩ := nextS_pos h2 hb
      have hlen := cnextT_short n1
      have HW := Lib.hid (fun W hm hr hmb => within_good r s b p2 q2 σ1.size σ1.told mb t2 hb hs m W hm hr hmb n1 n2 n3 n4)
      clear h2 n1 n2 n3 n4 k1 k2
      have hy0 : 0 ≤ y - x + 1 := by omega
      by_cases hbr : t2.kind = 6 ∧ t2.s = [91]
      · rw [if_pos hbr] at hR
        have kk : (t2.kind == 6) = true := by simpa using hbr.1
        have s9 : (t2.s == [91]) = true := by simpa using hbr.2
        have HSV := Lib.hid (fun W hm hS => several_in r s q2 mb σ1 (y - x + 1) n5 hs m W hm hS ((s.data.toList.drop q2).length + 1) (by rw [List.length_drop]; simp))
        have hsl := Lib.hid (fun xs r3 (h : sevC ((s.data.toList.drop q2).length + 1) (s.data.toList.drop q2) [] = .good (xs, r3)) => sevC_short h (by simp))
        obtain ⟨T, hT⟩ : ∃ T, sevC ((s.data.toList.drop q2).length + 1) (s.data.toList.drop q2) [] = T := ⟨_, rfl⟩
        rw [hT] at hR HSV hsl
        clear hT hbr
        cases T with
        | bad k =>
          dsimp only at hR
          subst hR
          go_enter Tryz.func68, Tryz.ntmps68
          go_wp2_with fail
          refine (HSP.out _ (hm.below (by repeat' (first | (with_reducible first | exact Below.refl _ _ | refine Below.drew ?_ | refine belowDrewN ?_ _ | refine belowIter ?_ ?_ _ _ | refine Below.setCell ?_ ?_ _ | refine Below.alloc ?_ ?_ _ | refine bT hb4 ?_ ?_ | refine bT hb3 ?_ ?_ | refine bT hb2 ?_ ?_ | refine bT hb1 ?_ ?_ | refine bT hbr ?_ ?_ | refine bT hb ?_ ?_) | (simp; done) | (simp; omega) | omega))) (hS.below (by repeat' (first | (with_reducible first | exact Below.refl _ _ | refine Below.drew ?_ | refine belowDrewN ?_ _ | refine belowIter ?_ ?_ _ _ | refine Below.setCell ?_ ?_ _ | refine Below.alloc ?_ ?_ _ | refine bT hb4 ?_ ?_ | refine bT hb3 ?_ ?_ | refine bT hb2 ?_ ?_ | refine bT hb1 ?_ ?_ | refine bT hbr ?_ ?_ | refine bT hb ?_ ?_) | (simp; done) | (simp; omega) | omega)))).mono ?_
          rintro e w1 ⟨rfl, a1, ha1, e1, hS1, hs1⟩
          obtain rfl := HAE.out a1 ha1 e1
          have HB1 := Lib.hid ((Bes2.of_below (show Below w.heap.size w (w.alloc (.cells #[.int .i64 t.kind, .int .i64 p, .int .i64 q, .int .i64 t.n, .string ⟨t.s.toArray⟩] 59)) from (by repeat' (first | (with_reducible first | exact Below.refl _ _ | refine Below.drew ?_ | refine belowDrewN ?_ _ | refine belowIter ?_ ?_ _ _ | refine Below.setCell ?_ ?_ _ | refine Below.alloc ?_ ?_ _ | refine bT hb4 ?_ ?_ | refine bT hb3 ?_ ?_ | refine bT hb2 ?_ ?_ | refine bT hb1 ?_ ?_ | refine bT hbr ?_ ?_ | refine bT hb ?_ ?_) | (simp; done) | (simp; omega) | omega)))).trans hs1)
          have hm1 : MaxW w1 m := hm.bes2 HB1.out hnr hnm
          have hz1 := HB1.out.size
          go_wp2_with fail
          refine (HW.out _ hm1 hS1.q (by omega)).mono ?_
          rintro e w2 ⟨rfl, hr2, hs2⟩
          have hS2 : SQ w2 r s q2 mb σ1 := ⟨hr2, hS1.m.bes hs2 (hS1.m.ne hS1.q)⟩
          have HB2 := Lib.hid (HB1.out.trans (hs2.any mb))
          have hm2 : MaxW w2 m := hm.bes2 HB2.out hnr hnm
          have hz2 := hs2.size
          unfold ctkV
          go_wp2_with fail
          refine (HSV.out _ (hm2.below ((Below.refl _ _).alloc (Nat.le_refl _) _)) (hS2.below ((Below.refl _ _).alloc (Nat.le_refl _) _))).mono ?_
          rintro e w3 ⟨rfl, hs3⟩
          go_wp2
          exact ⟨rfl, rfl, (HB2.out.below ((Below.refl _ _).alloc (Nat.le_refl _) _)).trans hs3⟩
        | good yy =>
          obtain ⟨xs, r3⟩ := yy
          dsimp only at hR
          by_cases hxs : (xs.length : Int) = y - x + 1
          rotate_left
          · rw [if_neg hxs] at hR
            subst hR
            go_enter Tryz.func68, Tryz.ntmps68
            go_wp2_with fail
            refine (HSP.out _ (hm.below (by repeat' (first | (with_reducible first | exact Below.refl _ _ | refine Below.drew ?_ | refine belowDrewN ?_ _ | refine belowIter ?_ ?_ _ _ | refine Below.setCell ?_ ?_ _ | refine Below.alloc ?_ ?_ _ | refine bT hb4 ?_ ?_ | refine bT hb3 ?_ ?_ | refine bT hb2 ?_ ?_ | refine bT hb1 ?_ ?_ | refine bT hbr ?_ ?_ | refine bT hb ?_ ?_) | (simp; done) | (simp; omega) | omega))) (hS.below (by repeat' (first | (with_reducible first | exact Below.refl _ _ | refine Below.drew ?_ | refine belowDrewN ?_ _ | refine belowIter ?_ ?_ _ _ | refine Below.setCell ?_ ?_ _ | refine Below.alloc ?_ ?_ _ | refine bT hb4 ?_ ?_ | refine bT hb3 ?_ ?_ | refine bT hb2 ?_ ?_ | refine bT hb1 ?_ ?_ | refine bT hbr ?_ ?_ | refine bT hb ?_ ?_) | (simp; done) | (simp; omega) | omega)))).mono ?_
            rintro e w1 ⟨rfl, a1, ha1, e1, hS1, hs1⟩
            obtain rfl := HAE.out a1 ha1 e1
            have HB1 := Lib.hid ((Bes2.of_below (show Below w.heap.size w (w.alloc (.cells #[.int .i64 t.kind, .int .i64 p, .int .i64 q, .int .i64 t.n, .string ⟨t.s.toArray⟩] 59)) from (by repeat' (first | (with_reducible first | exact Below.refl _ _ | refine Below.drew ?_ | refine belowDrewN ?_ _ | refine belowIter ?_ ?_ _ _ | refine Below.setCell ?_ ?_ _ | refine Below.alloc ?_ ?_ _ | refine bT hb4 ?_ ?_ | refine bT hb3 ?_ ?_ | refine bT hb2 ?_ ?_ | refine bT hb1 ?_ ?_ | refine bT hbr ?_ ?_ | refine bT hb ?_ ?_) | (simp; done) | (simp; omega) | omega)))).trans hs1)
            have hm1 : MaxW w1 m := hm.bes2 HB1.out hnr hnm
            have hz1 := HB1.out.size
            go_wp2_with fail
            refine (HW.out _ hm1 hS1.q (by omega)).mono ?_
            rintro e w2 ⟨rfl, hr2, hs2⟩
            have hS2 : SQ w2 r s q2 mb σ1 := ⟨hr2, hS1.m.bes hs2 (hS1.m.ne hS1.q)⟩
            have HB2 := Lib.hid (HB1.out.trans (hs2.any mb))
            have hm2 : MaxW w2 m := hm.bes2 HB2.out hnr hnm
            have hz2 := hs2.size
            unfold ctkV
            go_wp2_with fail
            refine (HSV.out _ (hm2.below ((Below.refl _ _).alloc (Nat.le_refl _) _)) (hS2.below ((Below.refl _ _).alloc (Nat.le_refl _) _))).mono ?_
            rintro e w3 (⟨h, _⟩ | ⟨_, rfl, hs3⟩)
            · exact absurd h hxs
            go_wp2
            exact ⟨rfl, rfl, (HB2.out.below ((Below.refl _ _).alloc (Nat.le_refl _) _)).trans hs3⟩
          rw [if_pos hxs] at hR
          obtain ⟨TT, hTT⟩ : ∃ TT, tellAllC x xs σ1 = TT := ⟨_, rfl⟩
          rw [hTT] at hR
          have HTT := Lib.hid hTT
          have hxsl : xs.length ≤ 65536 := by omega
          have HXS := Lib.hid hxs
          have HSH := Lib.hid (hsl.out xs r3 rfl)
          clear hTT hxs
          go_enter Tryz.func68, Tryz.ntmps68
          go_wp2_with fail
          refine (HSP.out _ (hm.below (by repeat' (first | (with_reducible first | exact Below.refl _ _ | refine Below.drew ?_ | refine belowDrewN ?_ _ | refine belowIter ?_ ?_ _ _ | refine Below.setCell ?_ ?_ _ | refine Below.alloc ?_ ?_ _ | refine bT hb4 ?_ ?_ | refine bT hb3 ?_ ?_ | refine bT hb2 ?_ ?_ | refine bT hb1 ?_ ?_ | refine bT hbr ?_ ?_ | refine bT hb ?_ ?_) | (simp; done) | (simp; omega) | omega))) (hS.below (by repeat' (first | (with_reducible first | exact Below.refl _ _ | refine Below.drew ?_ | refine belowDrewN ?_ _ | refine belowIter ?_ ?_ _ _ | refine Below.setCell ?_ ?_ _ | refine Below.alloc ?_ ?_ _ | refine bT hb4 ?_ ?_ | refine bT hb3 ?_ ?_ | refine bT hb2 ?_ ?_ | refine bT hb1 ?_ ?_ | refine bT hbr ?_ ?_ | refine bT hb ?_ ?_) | (simp; done) | (simp; omega) | omega)))).mono ?_
          rintro e w1 ⟨rfl, a1, ha1, e1, hS1, hs1⟩
          obtain rfl := HAE.out a1 ha1 e1
          have HB1 := Lib.hid ((Bes2.of_below (show Below w.heap.size w (w.alloc (.cells #[.int .i64 t.kind, .int .i64 p, .int .i64 q, .int .i64 t.n, .string ⟨t.s.toArray⟩] 59)) from (by repeat' (first | (with_reducible first | exact Below.refl _ _ | refine Below.drew ?_ | refine belowDrewN ?_ _ | refine belowIter ?_ ?_ _ _ | refine Below.setCell ?_ ?_ _ | refine Below.alloc ?_ ?_ _ | refine bT hb4 ?_ ?_ | refine bT hb3 ?_ ?_ | refine bT hb2 ?_ ?_ | refine bT hb1 ?_ ?_ | refine bT hbr ?_ ?_ | refine bT hb ?_ ?_) | (simp; done) | (simp; omega) | omega)))).trans hs1)
          have hm1 : MaxW w1 m := hm.bes2 HB1.out hnr hnm
          have hz1 := HB1.out.size
          go_wp2_with fail
          refine (HW.out _ hm1 hS1.q (by omega)).mono ?_
          rintro e w2 ⟨rfl, hr2, hs2⟩
          have hS2 : SQ w2 r s q2 mb σ1 := ⟨hr2, hS1.m.bes hs2 (hS1.m.ne hS1.q)⟩
          have HB2 := Lib.hid (HB1.out.trans (hs2.any mb))
          have hm2 : MaxW w2 m := hm.bes2 HB2.out hnr hnm
          have hz2 := hs2.size
          unfold ctkV
          go_wp2_with fail
          refine (HSV.out _ (hm2.below ((Below.refl _ _).alloc (Nat.le_refl _) _)) (hS2.below ((Below.refl _ _).alloc (Nat.le_refl _) _))).mono ?_
          rintro e w3 (⟨_, v, a3, rfl, hown, ha3, rfl, hS3, hs3⟩ | ⟨h, _⟩)
          rotate_left
          · exact absurd HXS.out h
          obtain ⟨pv, cv, rfl⟩ := cown_slice hown
          have HB3 := Lib.hid ((HB2.out.below ((Below.refl _ _).alloc (Nat.le_refl _) _)).trans hs3)
          obtain ⟨N, hN⟩ : ∃ N, xs.length = N := ⟨_, rfl⟩
          obtain ⟨B, hB⟩ : ∃ B, (w2.alloc (.cells #[.int .i64 t2.kind, .int .i64 p2, .int .i64 q2, .int .i64 t2.n, .string ⟨t2.s.toArray⟩] 59)).heap.size = B := ⟨_, rfl⟩
          have hBr : r < B ∧ mb < B := by rw [← hB]; simp; omega
          have HSB := Lib.hid (show cownS w3 B (.slice pv xs.length cv) xs by rw [← hB]; exact hown)
          rw [hN] at HSB
          have HN := Lib.hid hN
          have hNb : N ≤ 65536 := by omega
          clear hown hB hsl HSV hxsl
          rw [hN]
          go_wp2
          go_loopw [52] (fun i wr => ∃ (k : Nat) (σk : CS), k ≤ N ∧ i = .int .i64 k ∧ Hid (cownS wr B (.slice pv N cv) xs) ∧ SQ wr r s a3 mb σk ∧ Hid (σk.told ≤ 4096) ∧ Hid (Bes2 r mb w wr) ∧ Hid (tellAllC (x + (k : Int)) (xs.drop k) σk = TT)) (fun i _ => N - (intOf i).toNat)
          case atStart => exact ⟨0, σ1, Nat.zero_le _, rfl, HSB, hS3, Lib.hid kt, HB3, Lib.hid (by have := HTT.out; simpa using this)⟩
          case round =>
            clear HSB hS3 HB3 HTT kt hS2 HB2 hm2 hS1 HB1 hm1 hS
            obtain ⟨k, σk, hk, rfl, HO, hSr, HT4, HB, HX⟩ := hrel
            obtain ⟨hrg, hmg⟩ := hBr
            by_cases hlk : k < N
            · have hlk2 : k < xs.length := by rw [HN.out]; exact hlk
              obtain ⟨g, rfl, hg1, hg2, c0⟩ := cownS_cell HO.out k hlk2
              have fk0 : 0 ≤ x + (k : Int) := by omega
              have fk1 : x + (k : Int) ≤ 1000000 := by omega
              have hvl : (xs[k]).length ≤ 1000000000000 := by have := HSH.out _ (List.getElem_mem hlk2); omega
              rw [tellAll_cons hlk2] at HX
              obtain ⟨v, hv⟩ : ∃ v, xs[k] = v := ⟨_, rfl⟩
              rw [hv] at c0 hvl HX
              have HTE := Lib.hid (fun W hS => tellS_in r s a3 mb σk (x + (k : Int)) v fk0 fk1 hvl W hS HT4.out)
              obtain ⟨T, hT⟩ : ∃ T, tellC σk (x + (k : Int)) v = T := ⟨_, rfl⟩
              rw [hT] at HX HTE
              clear hT hv hlk2
              cases T with
              | bad k' =>
                obtain rfl : TT = .bad k' := HX.out.symm
                subst hR
                go_wp2_with fail
                refine (HTE.out _ hSr).mono ?_
                rintro e w5 ⟨rfl, hs5⟩
                go_wp2
                exact ⟨rfl, rfl, HB.out.trans hs5⟩
              | good σ' =>
                dsimp only at HX
                go_wp2_with fail
                refine (HTE.out _ hSr).mono ?_
                rintro e w5 ⟨rfl, hS5, ht5, hs5⟩
                have HH := Lib.hid (And.intro ht5 (And.intro (HB.out.trans hs5) (own_bes HO.out hs5 hrg hmg)))
                clear ht5 hs5
                go_wp2
                go_roundw
                case rel => exact ⟨k + 1, σ', by omega, by go_num, Lib.hid HH.out.2.2, hS5, Lib.hid HH.out.1, Lib.hid HH.out.2.1, HX⟩
                case measure => simp [intOf]; omega
            · have hxd : xs.drop k = [] := List.drop_eq_nil_of_le (by rw [HN.out]; omega)
              obtain rfl : TT = .good σk := by have := HX.out; rw [hxd, tellAllC] at this; exact this.symm
              subst hR
              go_wp2
              go_end0
              exact ⟨rfl, a3, ha3, rfl, hSr, HT4.out, HB.out⟩
      · rw [if_neg hbr] at hR
        have HRI := Lib.hid (fun W hS => rising_in r s q2 p2 q2 mb σ1 t2 x (y - x + 1).toNat k3 (by omega) (by omega) (by omega) hlen W hS kt)
        have em : (((y - x + 1).toNat : Nat) : Int) = y - x + 1 := by omega
        rw [em] at HRI
        obtain ⟨T, hT⟩ : ∃ T, risingC σ1 t2 x (y - x + 1).toNat = T := ⟨_, rfl⟩
        rw [hT] at hR HRI
        have htot : (t2.kind == 6) = false ∨ (t2.kind == 6) = true ∧ (t2.s == [91]) = false := by
          cases k6 : (t2.kind == 6)
          · exact .inl rfl
          · refine .inr ⟨rfl, ?_⟩
            cases h : (t2.s == [91])
            · rfl
            · exact absurd ⟨by simpa using k6, by simpa using h⟩ hbr
        clear hT em hbr hlen hy0
        rcases htot with kk | ⟨kk, s9⟩
        ·
          go_enter Tryz.func68, Tryz.ntmps68
          go_wp2_with fail
          refine (HSP.out _ (hm.below (by repeat' (first | (with_reducible first | exact Below.refl _ _ | refine Below.drew ?_ | refine belowDrewN ?_ _ | refine belowIter ?_ ?_ _ _ | refine Below.setCell ?_ ?_ _ | refine Below.alloc ?_ ?_ _ | refine bT hb4 ?_ ?_ | refine bT hb3 ?_ ?_ | refine bT hb2 ?_ ?_ | refine bT hb1 ?_ ?_ | refine bT hbr ?_ ?_ | refine bT hb ?_ ?_) | (simp; done) | (simp; omega) | omega))) (hS.below (by repeat' (first | (with_reducible first | exact Below.refl _ _ | refine Below.drew ?_ | refine belowDrewN ?_ _ | refine belowIter ?_ ?_ _ _ | refine Below.setCell ?_ ?_ _ | refine Below.alloc ?_ ?_ _ | refine bT hb4 ?_ ?_ | refine bT hb3 ?_ ?_ | refine bT hb2 ?_ ?_ | refine bT hb1 ?_ ?_ | refine bT hbr ?_ ?_ | refine bT hb ?_ ?_) | (simp; done) | (simp; omega) | omega)))).mono ?_
          rintro e w1 ⟨rfl, a1, ha1, e1, hS1, hs1⟩
          obtain rfl := HAE.out a1 ha1 e1
          have HB1 := Lib.hid ((Bes2.of_below (show Below w.heap.size w (w.alloc (.cells #[.int .i64 t.kind, .int .i64 p, .int .i64 q, .int .i64 t.n, .string ⟨t.s.toArray⟩] 59)) from (by repeat' (first | (with_reducible first | exact Below.refl _ _ | refine Below.drew ?_ | refine belowDrewN ?_ _ | refine belowIter ?_ ?_ _ _ | refine Below.setCell ?_ ?_ _ | refine Below.alloc ?_ ?_ _ | refine bT hb4 ?_ ?_ | refine bT hb3 ?_ ?_ | refine bT hb2 ?_ ?_ | refine bT hb1 ?_ ?_ | refine bT hbr ?_ ?_ | refine bT hb ?_ ?_) | (simp; done) | (simp; omega) | omega)))).trans hs1)
          have hm1 : MaxW w1 m := hm.bes2 HB1.out hnr hnm
          have hz1 := HB1.out.size
          go_wp2_with fail
          refine (HW.out _ hm1 hS1.q (by omega)).mono ?_
          rintro e w2 ⟨rfl, hr2, hs2⟩
          have hS2 : SQ w2 r s q2 mb σ1 := ⟨hr2, hS1.m.bes hs2 (hS1.m.ne hS1.q)⟩
          have HB2 := Lib.hid (HB1.out.trans (hs2.any mb))
          have hm2 : MaxW w2 m := hm.bes2 HB2.out hnr hnm
          have hz2 := hs2.size
          unfold ctkV
          go_wp2_with fail
          refine (HRI.out _ (hS2.below ((Below.refl _ _).alloc (Nat.le_refl _) _))).mono ?_
          cases T with
          | bad k =>
            subst hR
            rintro e w4 ⟨rfl, hs4⟩
            go_wp2
            exact ⟨rfl, rfl, (HB2.out.below ((Below.refl _ _).alloc (Nat.le_refl _) _)).trans hs4⟩
          | good σ2 =>
            subst hR
            rintro e w4 ⟨rfl, hS4, ht4, hs4⟩
            go_wp2
            go_end0
            exact ⟨rfl, q2, n5, rfl, hS4, ht4, (HB2.out.below ((Below.refl _ _).alloc (Nat.le_refl _) _)).trans hs4⟩
        ·
          go_enter Tryz.func68, Tryz.ntmps68
          go_wp2_with fail
          refine (HSP.out _ (hm.below (by repeat' (first | (with_reducible first | exact Below.refl _ _ | refine Below.drew ?_ | refine belowDrewN ?_ _ | refine belowIter ?_ ?_ _ _ | refine Below.setCell ?_ ?_ _ | refine Below.alloc ?_ ?_ _ | refine bT hb4 ?_ ?_ | refine bT hb3 ?_ ?_ | refine bT hb2 ?_ ?_ | refine bT hb1 ?_ ?_ | refine bT hbr ?_ ?_ | refine bT hb ?_ ?_) | (simp; done) | (simp; omega) | omega))) (hS.below (by repeat' (first | (with_reducible first | exact Below.refl _ _ | refine Below.drew ?_ | refine belowDrewN ?_ _ | refine belowIter ?_ ?_ _ _ | refine Below.setCell ?_ ?_ _ | refine Below.alloc ?_ ?_ _ | refine bT hb4 ?_ ?_ | refine bT hb3 ?_ ?_ | refine bT hb2 ?_ ?_ | refine bT hb1 ?_ ?_ | refine bT hbr ?_ ?_ | refine bT hb ?_ ?_) | (simp; done) | (simp; omega) | omega)))).mono ?_
          rintro e w1 ⟨rfl, a1, ha1, e1, hS1, hs1⟩
          obtain rfl := HAE.out a1 ha1 e1
          have HB1 := Lib.hid ((Bes2.of_below (show Below w.heap.size w (w.alloc (.cells #[.int .i64 t.kind, .int .i64 p, .int .i64 q, .int .i64 t.n, .string ⟨t.s.toArray⟩] 59)) from (by repeat' (first | (with_reducible first | exact Below.refl _ _ | refine Below.drew ?_ | refine belowDrewN ?_ _ | refine belowIter ?_ ?_ _ _ | refine Below.setCell ?_ ?_ _ | refine Below.alloc ?_ ?_ _ | refine bT hb4 ?_ ?_ | refine bT hb3 ?_ ?_ | refine bT hb2 ?_ ?_ | refine bT hb1 ?_ ?_ | refine bT hbr ?_ ?_ | refine bT hb ?_ ?_) | (simp; done) | (simp; omega) | omega)))).trans hs1)
          have hm1 : MaxW w1 m := hm.bes2 HB1.out hnr hnm
          have hz1 := HB1.out.size
          go_wp2_with fail
          refine (HW.out _ hm1 hS1.q (by omega)).mono ?_
          rintro e w2 ⟨rfl, hr2, hs2⟩
          have hS2 : SQ w2 r s q2 mb σ1 := ⟨hr2, hS1.m.bes hs2 (hS1.m.ne hS1.q)⟩
          have HB2 := Lib.hid (HB1.out.trans (hs2.any mb))
          have hm2 : MaxW w2 m := hm.bes2 HB2.out hnr hnm
          have hz2 := hs2.size
          unfold ctkV
          go_wp2_with fail
          refine (HRI.out _ (hS2.below ((Below.refl _ _).alloc (Nat.le_refl _) _))).mono ?_
          cases T with
          | bad k =>
            subst hR
            rintro e w4 ⟨rfl, hs4⟩
            go_wp2
            exact ⟨rfl, rfl, (HB2.out.below ((Below.refl _ _).alloc (Nat.le_refl _) _)).trans hs4⟩
          | good σ2 =>
            subst hR
            rintro e w4 ⟨rfl, hS4, ht4, hs4⟩
            go_wp2
            go_end0
            exact ⟨rfl, q2, n5, rfl, hS4, ht4, (HB2.out.below ((Below.refl _ _).alloc (Nat.le_refl _) _)).trans hs4⟩
end Go.Proofs.YtibffdaljmmdoaaGreatDoor
/- The reader of a character code mapping: a section. -/
namespace Go.Proofs.YtibffdaljmmdoaaGreatDoor
open Go.RowKit Fo Go.Maps

theorem partC_end {p n : Nat} {l r : L} {t : Tok} {σ : CS} (h : nextS l = .good (t, r)) (h1 : t.kind = 5 ∧ t.s = endN ++ partN p) : partC p (n + 1) l σ = .good (σ, r) := by
  rw [partC, h]; exact if_pos h1
theorem partC_bad {p n : Nat} {l : L} {k : Int} {σ : CS} (h : nextS l = .bad k) : partC p (n + 1) l σ = .bad k := by
  rw [partC, h]
theorem partC_rbad {p n : Nat} {l r : L} {t : Tok} {σ : CS} {k : Int} (h : nextS l = .good (t, r)) (h1 : ¬(t.kind = 5 ∧ t.s = endN ++ partN p)) (h2 : rowC p t r σ = .bad k) : partC p (n + 1) l σ = .bad k := by
  rw [partC, h]; dsimp only; rw [if_neg h1, h2]
theorem partC_more {p n : Nat} {l r r' : L} {t : Tok} {σ σ' : CS} (h : nextS l = .good (t, r)) (h1 : ¬(t.kind = 5 ∧ t.s = endN ++ partN p)) (h2 : rowC p t r σ = .good (σ', r')) : partC p (n + 1) l σ = partC p n r' σ' := by
  rw [partC, h]; dsimp only; rw [if_neg h1, h2]
theorem end_bytes (P : L) : ((⟨#[101, 110, 100]⟩ : ByteArray) ++ ⟨P.toArray⟩).toList = endN ++ P := by
  rw [show (⟨#[101, 110, 100]⟩ : ByteArray) = ⟨[101, 110, 100].toArray⟩ from rfl, ByteArray.mk_append_mk, ByteArray.toList_eq]; simp [endN]
theorem row_in (pp : Nat) (hpp : pp < 3) (r : Nat) (s : ByteArray) (a p q mb : Nat) (σ : CS) (t : Tok) (ha : a ≤ s.size) (hs : s.size ≤ 1000000000) (m : Int) (w : World) (hm : MaxW w m) (hS : SQ w r s a mb σ) (ht : σ.told ≤ 4096) :
    Calls Tryz.prog 68 #[.pointer (some ⟨r, 0, none⟩), .string ⟨(partN pp).toArray⟩, .agg #[.int .i64 t.kind, .int .i64 p, .int .i64 q, .int .i64 t.n, .string ⟨t.s.toArray⟩]] w (ConsP r s mb w (rowC pp t (s.data.toList.drop a) σ)) := by
  match pp, hpp with
  | 0, _ => exact row0_in r s a p q mb σ t ha hs m w hm hS ht
  | 1, _ => exact row1_in r s a p q mb σ t ha hs m w hm hS ht
  | 2, _ => exact row2_in r s a p q mb σ t ha hs m w hm hS ht
set_option maxRecDepth 100000 in
set_option maxHeartbeats 2000000 in
theorem part_in (pp : Nat) (hpp : pp < 3) (r : Nat) (s : ByteArray) (a mb : Nat) (σ : CS) (ha : a ≤ s.size) (hs : s.size ≤ 1000000000) (m : Int) (w : World) (hm : MaxW w m) (hS : SQ w r s a mb σ) (ht : σ.told ≤ 4096) (fuel : Nat) (hf : s.size - a < fuel) :
    Calls Tryz.prog 46 #[.pointer (some ⟨r, 0, none⟩), .string ⟨(partN pp).toArray⟩] w (ConsP r s mb w (partC pp fuel (s.data.toList.drop a) σ)) := by
  obtain ⟨R, hR⟩ : ∃ R, partC pp fuel (s.data.toList.drop a) σ = R := ⟨_, rfl⟩
  rw [hR]
  have HR := Lib.hid hR
  have hlt := hS.q.lt
  have hltm := hS.m.lt
  have hnr := Lib.hid (hm.neQ hS.q)
  have hnm := Lib.hid (hm.neM hS.m)
  have HT := Lib.hid ht
  obtain ⟨P, hP⟩ : ∃ P, partN pp = P := ⟨_, rfl⟩
  have HROW := Lib.hid (fun a p q σ t ha W hm hS ht => row_in pp hpp r s a p q mb σ t ha hs m W hm hS ht)
  simp only [hP] at HROW
  have HPL := Lib.hid (show P.length ≤ 100 by rw [← hP]; match pp, hpp with | 0, _ => decide | 1, _ => decide | 2, _ => decide)
  have HPP := Lib.hid hP
  have y1 : 3 + P.length ≤ 9223372036854775807 := by have := HPL.out; omega
  rw [hP]
  clear hR ht hpp hP
  go_enter Tryz.func46, Tryz.ntmps46
  go_wp2
  go_loopw [] (fun wr => ∃ (b n : Nat) (σr : CS), b ≤ s.size ∧ Hid (s.size - b < n) ∧ SQ wr r s b mb σr ∧ Hid (σr.told ≤ 4096) ∧ Hid (Bes2 r mb w wr) ∧ Hid (partC pp n (s.data.toList.drop b) σr = R)) (fun wr => s.size - qPos wr r)
  case atStart => exact ⟨a, fuel, σ, ha, Lib.hid hf, hS, HT, Lib.hid (Bes2.refl _ _ _), HR⟩
  case round =>
    obtain ⟨b, n, σr, hb, HN, hSr, HTr, HB, HX⟩ := hrel
    have hmr := hm.bes2 HB.out hnr.out hnm.out
    obtain ⟨n, rfl⟩ : ∃ n', n = n' + 1 := ⟨n - 1, by have := HN.out; omega⟩
    clear hS HR
    cases hn : nextS (s.data.toList.drop b) with
    | bad k =>
      obtain rfl : R = .bad k := by rw [← HX.out, partC_bad hn]
      have HW := Lib.hid (fun W hm hr hmb => within_bad r s b σr.size σr.told mb k hb hs m W hm hr hmb hn)
      clear hn
      go_wp2_with fail
      refine (HW.out _ hmr hSr.q (by have := hSr.m.lt; omega)).mono ?_
      rintro e w1 ⟨rfl, hs1⟩
      go_wp2
      exact ⟨rfl, rfl, HB.out.trans (hs1.any mb)⟩
    | good y =>
      obtain ⟨t, l2⟩ := y
      obtain ⟨p2, q2, n1, n2, n3, n4, n5, rfl⟩ := nextS_pos hn hb
      have hlen := tok_len n1
      have hq : b < q2 := by
        have := (nextS_shorter hn).1
        have h2 : s.data.toList.length = s.size := by simp
        rw [List.length_drop, List.length_drop, h2] at this; omega
      have HW := Lib.hid (fun W hm hr hmb => within_good r s b p2 q2 σr.size σr.told mb t hb hs m W hm hr hmb n1 n2 n3 n4)
      by_cases hend : t.kind = 5 ∧ t.s = endN ++ partN pp
      · obtain rfl : R = .good (σr, s.data.toList.drop q2) := by rw [← HX.out, partC_end hn hend]
        obtain ⟨h1, h2⟩ := hend
        rw [HPP.out] at h2
        have k6 : (t.kind == 5) = true := by simpa using h1
        have s9 : (t.s == ((⟨#[101, 110, 100]⟩ : ByteArray) ++ ⟨P.toArray⟩).toList) = true := by rw [end_bytes]; simpa using h2
        clear hn n1 n2 n3 n4 h1 h2
        go_wp2_with fail
        refine (HW.out _ hmr hSr.q (by have := hSr.m.lt; omega)).mono ?_
        rintro e w1 ⟨rfl, hr1, hs1⟩
        have hS1 : SQ w1 r s q2 mb σr := ⟨hr1, hSr.m.bes hs1 (hSr.m.ne hSr.q)⟩
        have hz1 := hs1.size
        have hzr := HB.out.size
        have HB1 := Lib.hid (HB.out.trans (hs1.any mb))
        have hm1 : MaxW w1 m := hm.bes2 HB1.out hnr.out hnm.out
        unfold ctkV
        go_wp2
        refine bodyPost_ret (results_none rfl _ _ _) rfl ?_
        exact ⟨rfl, q2, n5, rfl, hS1.below (by repeat' (first | (with_reducible first | exact Below.refl _ _ | refine Below.drew ?_ | refine belowDrewN ?_ _ | refine belowIter ?_ ?_ _ _ | refine Below.setCell ?_ ?_ _ | refine Below.alloc ?_ ?_ _ | refine bT hb4 ?_ ?_ | refine bT hb3 ?_ ?_ | refine bT hb2 ?_ ?_ | refine bT hb1 ?_ ?_ | refine bT hbr ?_ ?_ | refine bT hb ?_ ?_) | (simp; done) | (simp; omega) | omega)), HTr.out, HB1.out.below (by repeat' (first | (with_reducible first | exact Below.refl _ _ | refine Below.drew ?_ | refine belowDrewN ?_ _ | refine belowIter ?_ ?_ _ _ | refine Below.setCell ?_ ?_ _ | refine Below.alloc ?_ ?_ _ | refine bT hb4 ?_ ?_ | refine bT hb3 ?_ ?_ | refine bT hb2 ?_ ?_ | refine bT hb1 ?_ ?_ | refine bT hbr ?_ ?_ | refine bT hb ?_ ?_) | (simp; done) | (simp; omega) | omega))⟩
      · have hkk : (t.kind == 5 && t.s == endN ++ P) = false := by
          cases h : (t.kind == 5 && t.s == endN ++ P)
          · rfl
          · simp only [Bool.and_eq_true, beq_iff_eq] at h
            rw [← HPP.out] at h
            exact absurd h hend
        have HRO := Lib.hid (fun W hm hS => HROW.out q2 p2 q2 σr t n5 W hm hS HTr.out)
        have htot : (t.kind == 5) = false ∨ (t.kind == 5) = true ∧ (t.s == ((⟨#[101, 110, 100]⟩ : ByteArray) ++ ⟨P.toArray⟩).toList) = false := by
          cases k6 : (t.kind == 5)
          · exact .inl rfl
          · rw [k6] at hkk; exact .inr ⟨rfl, by rw [end_bytes]; simpa using hkk⟩
        cases hx : rowC pp t (s.data.toList.drop q2) σr with
        | bad k =>
          obtain rfl : R = .bad k := by rw [← HX.out, partC_rbad hn hend hx]
          rw [hx] at HRO
          clear hn n1 n2 n3 n4 hx hkk hend
          rcases htot with k6 | ⟨k6, s9⟩
          ·
            go_wp2_with fail
            refine (HW.out _ hmr hSr.q (by have := hSr.m.lt; omega)).mono ?_
            rintro e w1 ⟨rfl, hr1, hs1⟩
            have hS1 : SQ w1 r s q2 mb σr := ⟨hr1, hSr.m.bes hs1 (hSr.m.ne hSr.q)⟩
            have hz1 := hs1.size
            have hzr := HB.out.size
            have HB1 := Lib.hid (HB.out.trans (hs1.any mb))
            have hm1 : MaxW w1 m := hm.bes2 HB1.out hnr.out hnm.out
            unfold ctkV
            go_wp2_with fail
            refine (HRO.out _ (hm1.below (by repeat' (first | (with_reducible first | exact Below.refl _ _ | refine Below.drew ?_ | refine belowDrewN ?_ _ | refine belowIter ?_ ?_ _ _ | refine Below.setCell ?_ ?_ _ | refine Below.alloc ?_ ?_ _ | refine bT hb4 ?_ ?_ | refine bT hb3 ?_ ?_ | refine bT hb2 ?_ ?_ | refine bT hb1 ?_ ?_ | refine bT hbr ?_ ?_ | refine bT hb ?_ ?_) | (simp; done) | (simp; omega) | omega))) (hS1.below (by repeat' (first | (with_reducible first | exact Below.refl _ _ | refine Below.drew ?_ | refine belowDrewN ?_ _ | refine belowIter ?_ ?_ _ _ | refine Below.setCell ?_ ?_ _ | refine Below.alloc ?_ ?_ _ | refine bT hb4 ?_ ?_ | refine bT hb3 ?_ ?_ | refine bT hb2 ?_ ?_ | refine bT hb1 ?_ ?_ | refine bT hbr ?_ ?_ | refine bT hb ?_ ?_) | (simp; done) | (simp; omega) | omega)))).mono ?_
            rintro e w5 ⟨rfl, hb5⟩
            go_wp2
            exact ⟨rfl, rfl, (HB1.out.below (show Below w1.heap.size w1 (w1.alloc _) from (Below.refl _ _).alloc (Nat.le_refl _) _)).trans hb5⟩
          ·
            go_wp2_with fail
            refine (HW.out _ hmr hSr.q (by have := hSr.m.lt; omega)).mono ?_
            rintro e w1 ⟨rfl, hr1, hs1⟩
            have hS1 : SQ w1 r s q2 mb σr := ⟨hr1, hSr.m.bes hs1 (hSr.m.ne hSr.q)⟩
            have hz1 := hs1.size
            have hzr := HB.out.size
            have HB1 := Lib.hid (HB.out.trans (hs1.any mb))
            have hm1 : MaxW w1 m := hm.bes2 HB1.out hnr.out hnm.out
            unfold ctkV
            go_wp2_with fail
            refine (HRO.out _ (hm1.below (by repeat' (first | (with_reducible first | exact Below.refl _ _ | refine Below.drew ?_ | refine belowDrewN ?_ _ | refine belowIter ?_ ?_ _ _ | refine Below.setCell ?_ ?_ _ | refine Below.alloc ?_ ?_ _ | refine bT hb4 ?_ ?_ | refine bT hb3 ?_ ?_ | refine bT hb2 ?_ ?_ | refine bT hb1 ?_ ?_ | refine bT hbr ?_ ?_ | refine bT hb ?_ ?_) | (simp; done) | (simp; omega) | omega))) (hS1.below (by repeat' (first | (with_reducible first | exact Below.refl _ _ | refine Below.drew ?_ | refine belowDrewN ?_ _ | refine belowIter ?_ ?_ _ _ | refine Below.setCell ?_ ?_ _ | refine Below.alloc ?_ ?_ _ | refine bT hb4 ?_ ?_ | refine bT hb3 ?_ ?_ | refine bT hb2 ?_ ?_ | refine bT hb1 ?_ ?_ | refine bT hbr ?_ ?_ | refine bT hb ?_ ?_) | (simp; done) | (simp; omega) | omega)))).mono ?_
            rintro e w5 ⟨rfl, hb5⟩
            go_wp2
            exact ⟨rfl, rfl, (HB1.out.below (show Below w1.heap.size w1 (w1.alloc _) from (Below.refl _ _).alloc (Nat.le_refl _) _)).trans hb5⟩
        | good y =>
          obtain ⟨σ5, l5⟩ := y
          have HX2 := Lib.hid (show partC pp n l5 σ5 = R by rw [← HX.out, partC_more hn hend hx])
          have HLEN := Lib.hid (show l5.length ≤ s.size - q2 by
            have := rowC_len hx
            have h2 : s.data.toList.length = s.size := by simp
            rw [List.length_drop, h2] at this; omega)
          rw [hx] at HRO
          clear hn n1 n2 n3 n4 hx HX hkk hend
          rcases htot with k6 | ⟨k6, s9⟩
          ·
            go_wp2_with fail
            refine (HW.out _ hmr hSr.q (by have := hSr.m.lt; omega)).mono ?_
            rintro e w1 ⟨rfl, hr1, hs1⟩
            have hS1 : SQ w1 r s q2 mb σr := ⟨hr1, hSr.m.bes hs1 (hSr.m.ne hSr.q)⟩
            have hz1 := hs1.size
            have hzr := HB.out.size
            have HB1 := Lib.hid (HB.out.trans (hs1.any mb))
            have hm1 : MaxW w1 m := hm.bes2 HB1.out hnr.out hnm.out
            unfold ctkV
            go_wp2_with fail
            refine (HRO.out _ (hm1.below (by repeat' (first | (with_reducible first | exact Below.refl _ _ | refine Below.drew ?_ | refine belowDrewN ?_ _ | refine belowIter ?_ ?_ _ _ | refine Below.setCell ?_ ?_ _ | refine Below.alloc ?_ ?_ _ | refine bT hb4 ?_ ?_ | refine bT hb3 ?_ ?_ | refine bT hb2 ?_ ?_ | refine bT hb1 ?_ ?_ | refine bT hbr ?_ ?_ | refine bT hb ?_ ?_) | (simp; done) | (simp; omega) | omega))) (hS1.below (by repeat' (first | (with_reducible first | exact Below.refl _ _ | refine Below.drew ?_ | refine belowDrewN ?_ _ | refine belowIter ?_ ?_ _ _ | refine Below.setCell ?_ ?_ _ | refine Below.alloc ?_ ?_ _ | refine bT hb4 ?_ ?_ | refine bT hb3 ?_ ?_ | refine bT hb2 ?_ ?_ | refine bT hb1 ?_ ?_ | refine bT hbr ?_ ?_ | refine bT hb ?_ ?_) | (simp; done) | (simp; omega) | omega)))).mono ?_
            rintro e w5 ⟨rfl, a5, ha5, e5, hS5, ht5, hb5⟩
            have HB5 := Lib.hid ((HB1.out.below (show Below w1.heap.size w1 (w1.alloc _) from (Below.refl _ _).alloc (Nat.le_refl _) _)).trans hb5)
            have HP5 := Lib.hid (hS5.q.pos)
            have HPr := Lib.hid hSr.q.pos
            have hlt5 : b < a5 := by
              have h2 : s.data.toList.length = s.size := by simp
              have := HLEN.out
              have := congrArg List.length e5
              rw [List.length_drop, h2] at this; omega
            subst e5
            have HH := Lib.hid (And.intro ht5 HX2.out)
            clear ht5
            go_wp2
            go_roundw
            case rel => exact ⟨a5, n, σ5, ha5, Lib.hid (by have := HN.out; omega), hS5, Lib.hid HH.out.1, HB5, Lib.hid HH.out.2⟩
            case measure => rw [HPr.out, HP5.out]; omega
          ·
            go_wp2_with fail
            refine (HW.out _ hmr hSr.q (by have := hSr.m.lt; omega)).mono ?_
            rintro e w1 ⟨rfl, hr1, hs1⟩
            have hS1 : SQ w1 r s q2 mb σr := ⟨hr1, hSr.m.bes hs1 (hSr.m.ne hSr.q)⟩
            have hz1 := hs1.size
            have hzr := HB.out.size
            have HB1 := Lib.hid (HB.out.trans (hs1.any mb))
            have hm1 : MaxW w1 m := hm.bes2 HB1.out hnr.out hnm.out
            unfold ctkV
            go_wp2_with fail
            refine (HRO.out _ (hm1.below (by repeat' (first | (with_reducible first | exact Below.refl _ _ | refine Below.drew ?_ | refine belowDrewN ?_ _ | refine belowIter ?_ ?_ _ _ | refine Below.setCell ?_ ?_ _ | refine Below.alloc ?_ ?_ _ | refine bT hb4 ?_ ?_ | refine bT hb3 ?_ ?_ | refine bT hb2 ?_ ?_ | refine bT hb1 ?_ ?_ | refine bT hbr ?_ ?_ | refine bT hb ?_ ?_) | (simp; done) | (simp; omega) | omega))) (hS1.below (by repeat' (first | (with_reducible first | exact Below.refl _ _ | refine Below.drew ?_ | refine belowDrewN ?_ _ | refine belowIter ?_ ?_ _ _ | refine Below.setCell ?_ ?_ _ | refine Below.alloc ?_ ?_ _ | refine bT hb4 ?_ ?_ | refine bT hb3 ?_ ?_ | refine bT hb2 ?_ ?_ | refine bT hb1 ?_ ?_ | refine bT hbr ?_ ?_ | refine bT hb ?_ ?_) | (simp; done) | (simp; omega) | omega)))).mono ?_
            rintro e w5 ⟨rfl, a5, ha5, e5, hS5, ht5, hb5⟩
            have HB5 := Lib.hid ((HB1.out.below (show Below w1.heap.size w1 (w1.alloc _) from (Below.refl _ _).alloc (Nat.le_refl _) _)).trans hb5)
            have HP5 := Lib.hid (hS5.q.pos)
            have HPr := Lib.hid hSr.q.pos
            have hlt5 : b < a5 := by
              have h2 : s.data.toList.length = s.size := by simp
              have := HLEN.out
              have := congrArg List.length e5
              rw [List.length_drop, h2] at this; omega
            subst e5
            have HH := Lib.hid (And.intro ht5 HX2.out)
            clear ht5
            go_wp2
            go_roundw
            case rel => exact ⟨a5, n, σ5, ha5, Lib.hid (by have := HN.out; omega), hS5, Lib.hid HH.out.1, HB5, Lib.hid HH.out.2⟩
            case measure => rw [HPr.out, HP5.out]; omega
end Go.Proofs.YtibffdaljmmdoaaGreatDoor
/- The reader of a character code mapping: what stands deferred. -/
namespace Go.Proofs.YtibffdaljmmdoaaGreatDoor
open Go.RowKit Fo

set_option maxRecDepth 100000 in
set_option maxHeartbeats 400000 in
theorem rface_idle (p : Addr) (w : World) :
    CallsD Tryz.prog 42 #[.pointer (some p)] .returning w fun e u' w' => e = .returned (.tuple #[]) ∧ u' = .returning ∧ w' = w := by
  refine callsD_of_wpS Tryz.func42 rfl fun c₀ cs hu => ?_
  simp only [Tryz.ntmps42, List.size_toArray, List.length_cons, List.length_nil, Nat.reduceAdd, Nat.reduceSub, Array.replicate_succ, Array.replicate_zero, List.push_toArray, List.append_toArray, List.nil_append, List.cons_append]
  apply wpS_seq
  apply wpS_region
  simp [wpOpsS, go_sem, recoverD, hu, Tryz.ntmps42, Exit.thenS]
  refine wpS_of_wp ?_
  go_wp2
  cases c₀
  simp_all [bodyPostS, results, Tryz.results42]
set_option maxRecDepth 100000 in
set_option maxHeartbeats 400000 in
theorem rface_catch (p : Addr) (x y : Int) (older : List PanicEntry) (w : World) (c0 : w.cell? p = some (.int .i64 y)) (f0 : w.frozen? p = false) :
    CallsD Tryz.prog 42 #[.pointer (some p)] (.panicking ({ v := .iface 77 (.int .i64 x), recovered := false } :: older)) w fun e u' w' =>
      e = .returned (.tuple #[]) ∧ u' = .panicking ({ v := .iface 77 (.int .i64 x), recovered := true } :: older) ∧ w' = w.setCell p (.int .i64 x) := by
  have hta : ∀ (x : Int) (w : World), (Instr.typeAssert (.iface 77 (.int .i64 x)) 20 77 true).run Tryz.prog w = .ok (.tuple #[.int .i64 x, .bool true]) w := fun _ _ => by kernel_rfl
  refine callsD_of_wpS Tryz.func42 rfl fun c₀ cs hu => ?_
  simp only [Tryz.ntmps42, List.size_toArray, List.length_cons, List.length_nil, Nat.reduceAdd, Nat.reduceSub, Array.replicate_succ, Array.replicate_zero, List.push_toArray, List.append_toArray, List.nil_append, List.cons_append]
  apply wpS_seq
  apply wpS_region
  simp [wpOpsS, go_sem, recoverD, hu, Tryz.ntmps42, Exit.thenS]
  refine wpS_of_wp ?_
  go_wp2
  cases c₀
  simp_all [bodyPostS, results, Tryz.results42]
end Go.Proofs.YtibffdaljmmdoaaGreatDoor
/- The reader of a character code mapping: its loop. -/
namespace Go.Proofs.YtibffdaljmmdoaaGreatDoor
open Go.RowKit Fo Go.Maps

theorem nextC_pos {s : ByteArray} {a : Nat} {t : Tok} {l : L} (h : nextC (s.data.toList.drop a) = .good (t, l)) (ha : a ≤ s.size) :
    ∃ p q, (nextT (s.data.toList.drop a)).2 = .good t ∧ a + (nextT (s.data.toList.drop a)).1 = p ∧ p + t.len = q ∧ q ≤ s.size ∧ l = s.data.toList.drop q ∧ (t.kind ≠ 0 → a < q) := by
  have h0 := h
  unfold nextC at h
  split at h
  · cases h
  rename_i t' h1
  cases h
  obtain ⟨g1, g2, g3, _⟩ := nextT_good h1
  have h2 : s.data.toList.length = s.size := by simp
  rw [List.length_drop, h2] at g1
  rw [List.drop_drop, ← Nat.add_assoc]
  refine ⟨_, _, h1, rfl, rfl, by omega, rfl, fun hk => ?_⟩
  have := (nextS_shorter (nextS_good' h0 hk)).1
  simp only [List.length_drop, h2] at this
  omega
theorem nextC_lex {l : L} {k : Int} (h : nextC l = .bad k) : (nextT l).2 = .bad k := by
  unfold nextC at h
  split at h
  · rename_i k' h1; cases h; exact h1
  · cases h
theorem readF_bad {n : Nat} {l : L} {k : Int} {σ : CS} (h : nextC l = .bad k) : readF (n + 1) l σ = .bad k := by
  rw [readF, h]
theorem readF_end {n : Nat} {l r : L} {t : Tok} {σ : CS} (h : nextC l = .good (t, r)) (h1 : t.kind = 0) : readF (n + 1) l σ = .good σ := by
  rw [readF, h]; exact if_pos h1
theorem readF_none {n : Nat} {l r : L} {t : Tok} {σ : CS} (h : nextC l = .good (t, r)) (h1 : ¬t.kind = 0) (h2 : partOf t = none) : readF (n + 1) l σ = readF n r σ := by
  rw [readF, h]; dsimp only; rw [if_neg h1, h2]
theorem readF_pbad {n p : Nat} {l r : L} {t : Tok} {σ : CS} {k : Int} (h : nextC l = .good (t, r)) (h1 : ¬t.kind = 0) (h2 : partOf t = some p) (h3 : partC p (l.length + 1) r σ = .bad k) : readF (n + 1) l σ = .bad k := by
  rw [readF, h]; dsimp only; rw [if_neg h1, h2]; dsimp only; rw [h3]
theorem readF_more {n p : Nat} {l r r' : L} {t : Tok} {σ σ' : CS} (h : nextC l = .good (t, r)) (h1 : ¬t.kind = 0) (h2 : partOf t = some p) (h3 : partC p (l.length + 1) r σ = .good (σ', r')) : readF (n + 1) l σ = readF n r' σ' := by
  rw [readF, h]; dsimp only; rw [if_neg h1, h2]; dsimp only; rw [h3]
theorem partC_len {p : Nat} : ∀ {n : Nat} {l l' : L} {σ σ' : CS}, partC p n l σ = .good (σ', l') → l'.length ≤ l.length
  | 0, l, l', σ, σ', h => by cases h
  | n + 1, l, l', σ, σ', h => by
    rw [partC] at h
    split at h
    · cases h
    rename_i t r h1
    have := (nextS_shorter h1).1
    split at h
    · cases h; omega
    split at h
    · cases h
    rename_i σ2 r2 h2
    have k1 := rowC_len h2
    have k2 := partC_len h
    omega
def names3 : List ByteArray := [⟨(partN 0).toArray⟩, ⟨(partN 1).toArray⟩, ⟨(partN 2).toArray⟩]
theorem partOf_some {t : Tok} {p : Nat} (h : partOf t = some p) : p < 3 ∧ t.kind = 5 ∧ t.s = beginN ++ partN p := by
  unfold partOf at h
  split at h
  · rename_i hk
    split at h
    · cases h; exact ⟨by decide, hk, by assumption⟩
    split at h
    · cases h; exact ⟨by decide, hk, by assumption⟩
    split at h
    · cases h; exact ⟨by decide, hk, by assumption⟩
    · cases h
  · cases h
theorem partOf_cut {t : Tok} {p : Nat} (h : partOf t = some p) : Lib.hasPrefix t.s beginN = true ∧ Lib.trimPrefix t.s beginN = partN p ∧ Lib.containsS names3 ⟨(partN p).toArray⟩ = true := by
  obtain ⟨h1, h2, h3⟩ := partOf_some h
  have hp : Lib.hasPrefix t.s beginN = true := by unfold Lib.hasPrefix; rw [h3]; simp [List.isPrefixOf_iff_prefix]
  refine ⟨hp, by unfold Lib.trimPrefix; rw [hp, h3]; simp, ?_⟩
  rw [Lib.containsS_iff]
  match p, h1 with
  | 0, _ => simp [names3]
  | 1, _ => simp [names3]
  | 2, _ => simp [names3]
theorem partOf_not {t : Tok} (h : partOf t = none) (h1 : t.kind = 5) (h2 : Lib.hasPrefix t.s beginN = true) : Lib.containsS names3 ⟨(Lib.trimPrefix t.s beginN).toArray⟩ = false := by
  have e : t.s = beginN ++ Lib.trimPrefix t.s beginN := by
    unfold Lib.trimPrefix; rw [h2]
    unfold Lib.hasPrefix at h2
    rw [List.isPrefixOf_iff_prefix] at h2
    obtain ⟨x, hx⟩ := h2
    rw [← hx]; simp
  cases hc : Lib.containsS names3 ⟨(Lib.trimPrefix t.s beginN).toArray⟩
  · rfl
  · exfalso
    rw [Lib.containsS_iff] at hc
    unfold partOf at h
    rw [if_pos h1] at h
    have inj : ∀ a b : L, (⟨a.toArray⟩ : ByteArray) = ⟨b.toArray⟩ → a = b := fun a b hab => by
      have := congrArg (fun x : ByteArray => x.data.toList) hab; simpa using this
    simp only [names3, List.mem_cons, List.not_mem_nil, or_false] at hc
    rcases hc with hc | hc | hc
    · rw [if_pos (by rw [e, inj _ _ hc])] at h; cases h
    · split at h
      · cases h
      rw [if_pos (by rw [e, inj _ _ hc])] at h; cases h
    · split at h
      · cases h
      split at h
      · cases h
      rw [if_pos (by rw [e, inj _ _ hc])] at h; cases h
theorem cut_as (x : L) (b : Bool) (nm : L) (hb : Lib.hasPrefix x beginN = b) (hn : Lib.trimPrefix x beginN = nm) (w : World) :
    Calls Tryz.prog 44 #[.string ⟨x.toArray⟩, .string ⟨#[98, 101, 103, 105, 110]⟩] w fun e w' => e = .returned (.tuple #[.string ⟨nm.toArray⟩, .bool b]) ∧ w' = w := by
  have := Tryz.strings_CutPrefix ⟨x.toArray⟩ ⟨#[98, 101, 103, 105, 110]⟩ w
  rw [show Lib.hasPrefix (ByteArray.mk x.toArray).data.toList (ByteArray.mk #[98, 101, 103, 105, 110]).data.toList = b from hb, show Lib.trimPrefix (ByteArray.mk x.toArray).data.toList (ByteArray.mk #[98, 101, 103, 105, 110]).data.toList = nm from hn] at this
  exact this
theorem parts_as (g c : Nat) (nm : L) (b : Bool) (hb : Lib.containsS names3 ⟨nm.toArray⟩ = b) (w : World)
    (c0 : w.cell? ⟨g, 0, none⟩ = some (.string ⟨(partN 0).toArray⟩)) (c1 : w.cell? ⟨g, 1, none⟩ = some (.string ⟨(partN 1).toArray⟩)) (c2 : w.cell? ⟨g, 2, none⟩ = some (.string ⟨(partN 2).toArray⟩)) :
    Calls Tryz.prog 45 #[.slice (some ⟨g, 0, none⟩) 3 c, .string ⟨nm.toArray⟩] w fun e w' => e = .returned (.bool b) ∧ w' = w := by
  have := Tryz.slices_Contains_string g 0 3 c names3 ⟨nm.toArray⟩ w (by decide) (by decide) (fun j hj => by
    have hj : j < 3 := hj
    match j, hj with
    | 0, _ => exact c0
    | 1, _ => exact c1
    | 2, _ => exact c2)
  rw [show names3.take 3 = names3 from rfl, hb] at this
  exact this
end Go.Proofs.YtibffdaljmmdoaaGreatDoor
/- The reader of a character code mapping: its loop, walked. -/
namespace Go.Proofs.YtibffdaljmmdoaaGreatDoor
open Go.RowKit Fo Go.Maps

/-- What reading turns. -/
def ReadP (r : Nat) (s : ByteArray) (mb : Nat) (w : World) (R : Res CS) (e : Ending) (w' : World) : Prop :=
  match R with
  | .good σ => e = .returned (.int .i64 0) ∧ (∃ a, a ≤ s.size ∧ SQ w' r s a mb σ) ∧ σ.told ≤ 4096 ∧ Bes2 r mb w w'
  | .bad k => e = .returned (.int .i64 k) ∧ Bes2 r mb w w'
theorem Bes2.cellAt {r m : Nat} {w w' : World} (h : Bes2 r m w w') {b : Nat} (hb : b < w.heap.size) (h1 : b ≠ r) (h2 : b ≠ m) {o : Obj} (he : w.heap[b]? = some o) : w'.heap[b]? = some o := (h.block b hb h1 h2).trans he
set_option maxRecDepth 100000 in
set_option maxHeartbeats 2000000 in
theorem qread_in (r : Nat) (s : ByteArray) (a mb : Nat) (σ : CS) (ha : a ≤ s.size) (hs : s.size ≤ 1000000000) (m : Int) (w : World) (hm : MaxW w m) (hS : SQ w r s a mb σ) (ht : σ.told ≤ 4096) (fuel : Nat) (hf : s.size - a < fuel) :
    Calls Tryz.prog 24 #[.pointer (some ⟨r, 0, none⟩)] w (ReadP r s mb w (readF fuel (s.data.toList.drop a) σ)) := by
  have hmf : ∀ (fn : Fn) (first cap : Array Value) (w : World), (Instr.makeFunc fn first cap).run Tryz.prog w = .ok (.func fn first cap) w := fun _ _ _ _ => rfl
  obtain ⟨R, hR⟩ : ∃ R, readF fuel (s.data.toList.drop a) σ = R := ⟨_, rfl⟩
  rw [hR]
  have HR := Lib.hid hR
  have hlt := hS.q.lt
  have hltm := hS.m.lt
  have hnr := Lib.hid (hm.neQ hS.q)
  have hnm := Lib.hid (hm.neM hS.m)
  have HT := Lib.hid ht
  clear hR ht
  go_enter_defers Tryz.func24, Tryz.ntmps24
  go_wp2
  go_loopw [] (fun wr => ∃ (b n : Nat) (σr : CS), b ≤ s.size ∧ Hid (s.size - b < n) ∧ SQ wr r s b mb σr ∧ Hid (σr.told ≤ 4096) ∧ Hid (Bes2 r mb (w.alloc (.cells #[.int .i64 0] 24)) wr) ∧ Hid (readF n (s.data.toList.drop b) σr = R)) (fun wr => s.size - qPos wr r)
  case atStart => exact ⟨a, fuel, σ, ha, Lib.hid hf, hS.below (by repeat' (first | (with_reducible first | exact Below.refl _ _ | refine Below.drew ?_ | refine belowDrewN ?_ _ | refine belowIter ?_ ?_ _ _ | refine Below.setCell ?_ ?_ _ | refine Below.alloc ?_ ?_ _ | refine bT hb4 ?_ ?_ | refine bT hb3 ?_ ?_ | refine bT hb2 ?_ ?_ | refine bT hb1 ?_ ?_ | refine bT hbr ?_ ?_ | refine bT hb ?_ ?_) | (simp; done) | (simp; omega) | omega)), HT, Lib.hid (Bes2.refl _ _ _), HR⟩
  case round =>
    obtain ⟨b, n, σr, hb, HN, hSr, HTr, HB, HX⟩ := hrel
    have hmr := hm.bes2 ((Bes2.of_below (show Below w.heap.size w (w.alloc (.cells #[.int .i64 0] 24)) from (by repeat' (first | (with_reducible first | exact Below.refl _ _ | refine Below.drew ?_ | refine belowDrewN ?_ _ | refine belowIter ?_ ?_ _ _ | refine Below.setCell ?_ ?_ _ | refine Below.alloc ?_ ?_ _ | refine bT hb4 ?_ ?_ | refine bT hb3 ?_ ?_ | refine bT hb2 ?_ ?_ | refine bT hb1 ?_ ?_ | refine bT hbr ?_ ?_ | refine bT hb ?_ ?_) | (simp; done) | (simp; omega) | omega)))).trans HB.out) hnr.out hnm.out
    obtain ⟨n, rfl⟩ : ∃ n', n = n' + 1 := ⟨n - 1, by have := HN.out; omega⟩
    clear hS HR
    have herr : ∀ W, Bes2 r mb (w.alloc (.cells #[.int .i64 0] 24)) W → W.cell? ⟨w.heap.size, 0, none⟩ = some (.int .i64 0) ∧ W.frozen? ⟨w.heap.size, 0, none⟩ = false := fun W hW => by
      have hk := hW.block w.heap.size (by simp) (by omega) (by omega)
      refine ⟨(World.cell?_of_block hk).trans (by simp [go_sem]), (World.frozen?_of_block hk).trans (by simp [go_sem])⟩
    cases hn : nextC (s.data.toList.drop b) with
    | bad k =>
      obtain rfl : R = .bad k := by rw [← HX.out, readF_bad hn]
      have HW := Lib.hid (fun W hm hr => qnext_bad r s b σr.size σr.told mb k hb hs m W hm hr (nextC_lex hn))
      clear hn
      go_wp2_with fail
      refine (HW.out _ hmr hSr.q).mono ?_
      rintro e w1 ⟨rfl, hs1⟩
      go_wp2
      have HBE := Lib.hid (HB.out.trans (hs1.any mb))
      obtain ⟨hE0, hE1⟩ := herr _ HBE.out
      refine leaves_cons (f := 42) (args := #[.pointer (some ⟨w.heap.size, 0, none⟩)]) (by simp) (by simp [go_sem]) ?_
      refine (rface_catch _ k 0 _ _ hE0 hE1).mono ?_
      rintro e u' w'' ⟨rfl, rfl, rfl⟩
      simp [Leaves, settle, results, Tryz.results24, go_sem, hE0, hE1]
      exact ⟨rfl, ((Bes2.of_below (show Below w.heap.size w (w.alloc (.cells #[.int .i64 0] 24)) from (by repeat' (first | (with_reducible first | exact Below.refl _ _ | refine Below.drew ?_ | refine belowDrewN ?_ _ | refine belowIter ?_ ?_ _ _ | refine Below.setCell ?_ ?_ _ | refine Below.alloc ?_ ?_ _ | refine bT hb4 ?_ ?_ | refine bT hb3 ?_ ?_ | refine bT hb2 ?_ ?_ | refine bT hb1 ?_ ?_ | refine bT hbr ?_ ?_ | refine bT hb ?_ ?_) | (simp; done) | (simp; omega) | omega)))).trans HBE.out).belowB (show Below w.heap.size _ _ from (by repeat' (first | (with_reducible first | exact Below.refl _ _ | refine Below.drew ?_ | refine belowDrewN ?_ _ | refine belowIter ?_ ?_ _ _ | refine Below.setCell ?_ ?_ _ | refine Below.alloc ?_ ?_ _ | refine bT hb4 ?_ ?_ | refine bT hb3 ?_ ?_ | refine bT hb2 ?_ ?_ | refine bT hb1 ?_ ?_ | refine bT hbr ?_ ?_ | refine bT hb ?_ ?_) | (simp; done) | (simp; omega) | omega))) (Nat.le_refl _)⟩
    | good y =>
      obtain ⟨t, l2⟩ := y
      obtain ⟨p2, q2, n1, n2, n3, n4, rfl, n6⟩ := nextC_pos hn hb
      have n5 := n4
      have hlen := tok_len n1
      have HW := Lib.hid (fun W hm hr => qnext_good r s b p2 σr.size σr.told mb t hb hs m W hm hr n1 n2)
      simp only [n3] at HW
      by_cases h0 : t.kind = 0
      · obtain rfl : R = .good σr := by rw [← HX.out, readF_end hn h0]
        have k0 : (t.kind == 0) = true := by simpa using h0
        clear hn n1 n2 n3 n6
        go_wp2_with fail
        refine (HW.out _ hmr hSr.q).mono ?_
        rintro e w1 ⟨rfl, hr1, hs1⟩
        have hS1 : SQ w1 r s q2 mb σr := ⟨hr1, hSr.m.bes hs1 (hSr.m.ne hSr.q)⟩
        have hz1 := hs1.size
        have hzr := HB.out.size
        simp at hzr
        have HB1 := Lib.hid (HB.out.trans (hs1.any mb))
        have hm1 : MaxW w1 m := hm.bes2 ((Bes2.of_below (show Below w.heap.size w (w.alloc (.cells #[.int .i64 0] 24)) from (by repeat' (first | (with_reducible first | exact Below.refl _ _ | refine Below.drew ?_ | refine belowDrewN ?_ _ | refine belowIter ?_ ?_ _ _ | refine Below.setCell ?_ ?_ _ | refine Below.alloc ?_ ?_ _ | refine bT hb4 ?_ ?_ | refine bT hb3 ?_ ?_ | refine bT hb2 ?_ ?_ | refine bT hb1 ?_ ?_ | refine bT hbr ?_ ?_ | refine bT hb ?_ ?_) | (simp; done) | (simp; omega) | omega)))).trans HB1.out) hnr.out hnm.out
        unfold ctkV
        obtain ⟨hE0, hE1⟩ := herr _ HB1.out
        have hne1 : w.heap.size < w1.heap.size := by omega
        have hne2 : ¬ w.heap.size = w1.heap.size := by omega
        have hne3 : ¬ w1.heap.size = w.heap.size := by omega
        go_wp2
        refine leaves_cons (f := 42) (args := #[.pointer (some ⟨w.heap.size, 0, none⟩)]) (by simp) (by simp [go_sem]) ?_
        refine (rface_idle _ _).mono ?_
        rintro e u' w'' ⟨rfl, rfl, rfl⟩
        simp [Leaves, settle, results, Tryz.results24, go_sem, hE0, hE1, hne1, hne2, hne3]
        exact ⟨rfl, ⟨q2, n5, hS1.belowB (show Below w.heap.size w1 _ from (by repeat' (first | (with_reducible first | exact Below.refl _ _ | refine Below.drew ?_ | refine belowDrewN ?_ _ | refine belowIter ?_ ?_ _ _ | refine Below.setCell ?_ ?_ _ | refine Below.alloc ?_ ?_ _ | refine bT hb4 ?_ ?_ | refine bT hb3 ?_ ?_ | refine bT hb2 ?_ ?_ | refine bT hb1 ?_ ?_ | refine bT hbr ?_ ?_ | refine bT hb ?_ ?_) | (simp; done) | (simp; omega) | omega))) hlt hltm⟩, HTr.out, ((Bes2.of_below (show Below w.heap.size w (w.alloc (.cells #[.int .i64 0] 24)) from (by repeat' (first | (with_reducible first | exact Below.refl _ _ | refine Below.drew ?_ | refine belowDrewN ?_ _ | refine belowIter ?_ ?_ _ _ | refine Below.setCell ?_ ?_ _ | refine Below.alloc ?_ ?_ _ | refine bT hb4 ?_ ?_ | refine bT hb3 ?_ ?_ | refine bT hb2 ?_ ?_ | refine bT hb1 ?_ ?_ | refine bT hbr ?_ ?_ | refine bT hb ?_ ?_) | (simp; done) | (simp; omega) | omega)))).trans HB1.out).belowB (show Below w.heap.size w1 _ from (by repeat' (first | (with_reducible first | exact Below.refl _ _ | refine Below.drew ?_ | refine belowDrewN ?_ _ | refine belowIter ?_ ?_ _ _ | refine Below.setCell ?_ ?_ _ | refine Below.alloc ?_ ?_ _ | refine bT hb4 ?_ ?_ | refine bT hb3 ?_ ?_ | refine bT hb2 ?_ ?_ | refine bT hb1 ?_ ?_ | refine bT hbr ?_ ?_ | refine bT hb ?_ ?_) | (simp; done) | (simp; omega) | omega))) (Nat.le_refl _)⟩
      · have hq := n6 h0
        have k0 : (t.kind == 0) = false := by simpa using h0
        cases hp : partOf t with
        | none =>
          have HX2 := Lib.hid (show readF n (s.data.toList.drop q2) σr = R by rw [← HX.out, readF_none hn h0 hp])
          obtain ⟨B, hB⟩ : ∃ B, Lib.hasPrefix t.s beginN = B := ⟨_, rfl⟩
          obtain ⟨nm, hnm2⟩ : ∃ nm, Lib.trimPrefix t.s beginN = nm := ⟨_, rfl⟩
          have HCUT := Lib.hid (fun W => cut_as t.s B nm hB hnm2 W)
          have htot : (t.kind == 5) = false ∨ (t.kind == 5) = true ∧ B = false ∨ (t.kind == 5) = true ∧ B = true ∧ Lib.containsS names3 ⟨nm.toArray⟩ = false := by
            cases k5 : (t.kind == 5)
            · exact .inl rfl
            · cases B
              · exact .inr (.inl ⟨rfl, rfl⟩)
              · refine .inr (.inr ⟨rfl, rfl, ?_⟩)
                rw [← hnm2]
                exact partOf_not hp (by simpa using k5) hB
          clear hn n1 n2 n3 n6 hp hB hnm2
          rcases htot with k5 | ⟨k5, rfl⟩ | ⟨k5, rfl, hc⟩
          ·
            go_wp2_with fail
            refine (HW.out _ hmr hSr.q).mono ?_
            rintro e w1 ⟨rfl, hr1, hs1⟩
            have hS1 : SQ w1 r s q2 mb σr := ⟨hr1, hSr.m.bes hs1 (hSr.m.ne hSr.q)⟩
            have hz1 := hs1.size
            have hzr := HB.out.size
            simp at hzr
            have HB1 := Lib.hid (HB.out.trans (hs1.any mb))
            have hm1 : MaxW w1 m := hm.bes2 ((Bes2.of_below (show Below w.heap.size w (w.alloc (.cells #[.int .i64 0] 24)) from (by repeat' (first | (with_reducible first | exact Below.refl _ _ | refine Below.drew ?_ | refine belowDrewN ?_ _ | refine belowIter ?_ ?_ _ _ | refine Below.setCell ?_ ?_ _ | refine Below.alloc ?_ ?_ _ | refine bT hb4 ?_ ?_ | refine bT hb3 ?_ ?_ | refine bT hb2 ?_ ?_ | refine bT hb1 ?_ ?_ | refine bT hbr ?_ ?_ | refine bT hb ?_ ?_) | (simp; done) | (simp; omega) | omega)))).trans HB1.out) hnr.out hnm.out
            unfold ctkV
            go_wp2_with fail
            refine (HCUT.out _).mono ?_
            rintro e w3 ⟨rfl, rfl⟩
            have HPQ := Lib.hid (fun W (hW : Below w1.heap.size w1 W) => (hS1.below hW).q.pos)
            have HPr := Lib.hid hSr.q.pos
            go_wp2
            go_roundw
            case rel => exact ⟨q2, n, σr, n5, Lib.hid (by have := HN.out; omega), hS1.below (by repeat' (first | (with_reducible first | exact Below.refl _ _ | refine Below.drew ?_ | refine belowDrewN ?_ _ | refine belowIter ?_ ?_ _ _ | refine Below.setCell ?_ ?_ _ | refine Below.alloc ?_ ?_ _ | refine bT hb4 ?_ ?_ | refine bT hb3 ?_ ?_ | refine bT hb2 ?_ ?_ | refine bT hb1 ?_ ?_ | refine bT hbr ?_ ?_ | refine bT hb ?_ ?_) | (simp; done) | (simp; omega) | omega)), HTr, Lib.hid (HB1.out.below (by repeat' (first | (with_reducible first | exact Below.refl _ _ | refine Below.drew ?_ | refine belowDrewN ?_ _ | refine belowIter ?_ ?_ _ _ | refine Below.setCell ?_ ?_ _ | refine Below.alloc ?_ ?_ _ | refine bT hb4 ?_ ?_ | refine bT hb3 ?_ ?_ | refine bT hb2 ?_ ?_ | refine bT hb1 ?_ ?_ | refine bT hbr ?_ ?_ | refine bT hb ?_ ?_) | (simp; done) | (simp; omega) | omega))), HX2⟩
            case measure =>
              rw [HPr.out, HPQ.out]
              · omega
              · exact (by repeat' (first | (with_reducible first | exact Below.refl _ _ | refine Below.drew ?_ | refine belowDrewN ?_ _ | refine belowIter ?_ ?_ _ _ | refine Below.setCell ?_ ?_ _ | refine Below.alloc ?_ ?_ _ | refine bT hb4 ?_ ?_ | refine bT hb3 ?_ ?_ | refine bT hb2 ?_ ?_ | refine bT hb1 ?_ ?_ | refine bT hbr ?_ ?_ | refine bT hb ?_ ?_) | (simp; done) | (simp; omega) | omega))
          ·
            go_wp2_with fail
            refine (HW.out _ hmr hSr.q).mono ?_
            rintro e w1 ⟨rfl, hr1, hs1⟩
            have hS1 : SQ w1 r s q2 mb σr := ⟨hr1, hSr.m.bes hs1 (hSr.m.ne hSr.q)⟩
            have hz1 := hs1.size
            have hzr := HB.out.size
            simp at hzr
            have HB1 := Lib.hid (HB.out.trans (hs1.any mb))
            have hm1 : MaxW w1 m := hm.bes2 ((Bes2.of_below (show Below w.heap.size w (w.alloc (.cells #[.int .i64 0] 24)) from (by repeat' (first | (with_reducible first | exact Below.refl _ _ | refine Below.drew ?_ | refine belowDrewN ?_ _ | refine belowIter ?_ ?_ _ _ | refine Below.setCell ?_ ?_ _ | refine Below.alloc ?_ ?_ _ | refine bT hb4 ?_ ?_ | refine bT hb3 ?_ ?_ | refine bT hb2 ?_ ?_ | refine bT hb1 ?_ ?_ | refine bT hbr ?_ ?_ | refine bT hb ?_ ?_) | (simp; done) | (simp; omega) | omega)))).trans HB1.out) hnr.out hnm.out
            unfold ctkV
            go_wp2_with fail
            refine (HCUT.out _).mono ?_
            rintro e w3 ⟨rfl, rfl⟩
            have HPQ := Lib.hid (fun W (hW : Below w1.heap.size w1 W) => (hS1.below hW).q.pos)
            have HPr := Lib.hid hSr.q.pos
            go_wp2
            go_roundw
            case rel => exact ⟨q2, n, σr, n5, Lib.hid (by have := HN.out; omega), hS1.below (by repeat' (first | (with_reducible first | exact Below.refl _ _ | refine Below.drew ?_ | refine belowDrewN ?_ _ | refine belowIter ?_ ?_ _ _ | refine Below.setCell ?_ ?_ _ | refine Below.alloc ?_ ?_ _ | refine bT hb4 ?_ ?_ | refine bT hb3 ?_ ?_ | refine bT hb2 ?_ ?_ | refine bT hb1 ?_ ?_ | refine bT hbr ?_ ?_ | refine bT hb ?_ ?_) | (simp; done) | (simp; omega) | omega)), HTr, Lib.hid (HB1.out.below (by repeat' (first | (with_reducible first | exact Below.refl _ _ | refine Below.drew ?_ | refine belowDrewN ?_ _ | refine belowIter ?_ ?_ _ _ | refine Below.setCell ?_ ?_ _ | refine Below.alloc ?_ ?_ _ | refine bT hb4 ?_ ?_ | refine bT hb3 ?_ ?_ | refine bT hb2 ?_ ?_ | refine bT hb1 ?_ ?_ | refine bT hbr ?_ ?_ | refine bT hb ?_ ?_) | (simp; done) | (simp; omega) | omega))), HX2⟩
            case measure =>
              rw [HPr.out, HPQ.out]
              · omega
              · exact (by repeat' (first | (with_reducible first | exact Below.refl _ _ | refine Below.drew ?_ | refine belowDrewN ?_ _ | refine belowIter ?_ ?_ _ _ | refine Below.setCell ?_ ?_ _ | refine Below.alloc ?_ ?_ _ | refine bT hb4 ?_ ?_ | refine bT hb3 ?_ ?_ | refine bT hb2 ?_ ?_ | refine bT hb1 ?_ ?_ | refine bT hbr ?_ ?_ | refine bT hb ?_ ?_) | (simp; done) | (simp; omega) | omega))
          ·
            go_wp2_with fail
            refine (HW.out _ hmr hSr.q).mono ?_
            rintro e w1 ⟨rfl, hr1, hs1⟩
            have hS1 : SQ w1 r s q2 mb σr := ⟨hr1, hSr.m.bes hs1 (hSr.m.ne hSr.q)⟩
            have hz1 := hs1.size
            have hzr := HB.out.size
            simp at hzr
            have HB1 := Lib.hid (HB.out.trans (hs1.any mb))
            have hm1 : MaxW w1 m := hm.bes2 ((Bes2.of_below (show Below w.heap.size w (w.alloc (.cells #[.int .i64 0] 24)) from (by repeat' (first | (with_reducible first | exact Below.refl _ _ | refine Below.drew ?_ | refine belowDrewN ?_ _ | refine belowIter ?_ ?_ _ _ | refine Below.setCell ?_ ?_ _ | refine Below.alloc ?_ ?_ _ | refine bT hb4 ?_ ?_ | refine bT hb3 ?_ ?_ | refine bT hb2 ?_ ?_ | refine bT hb1 ?_ ?_ | refine bT hbr ?_ ?_ | refine bT hb ?_ ?_) | (simp; done) | (simp; omega) | omega)))).trans HB1.out) hnr.out hnm.out
            unfold ctkV
            go_wp2_with fail
            refine (HCUT.out _).mono ?_
            rintro e w3 ⟨rfl, rfl⟩
            go_wp2_with fail
            refine (parts_as _ _ _ _ hc _ (by simp [go_sem, partN]) (by simp [go_sem, partN]) (by simp [go_sem, partN])).mono ?_
            rintro e w4 ⟨rfl, rfl⟩
            have HPQ := Lib.hid (fun W (hW : Below w1.heap.size w1 W) => (hS1.below hW).q.pos)
            have HPr := Lib.hid hSr.q.pos
            go_wp2
            go_roundw
            case rel => exact ⟨q2, n, σr, n5, Lib.hid (by have := HN.out; omega), hS1.below (by repeat' (first | (with_reducible first | exact Below.refl _ _ | refine Below.drew ?_ | refine belowDrewN ?_ _ | refine belowIter ?_ ?_ _ _ | refine Below.setCell ?_ ?_ _ | refine Below.alloc ?_ ?_ _ | refine bT hb4 ?_ ?_ | refine bT hb3 ?_ ?_ | refine bT hb2 ?_ ?_ | refine bT hb1 ?_ ?_ | refine bT hbr ?_ ?_ | refine bT hb ?_ ?_) | (simp; done) | (simp; omega) | omega)), HTr, Lib.hid (HB1.out.below (by repeat' (first | (with_reducible first | exact Below.refl _ _ | refine Below.drew ?_ | refine belowDrewN ?_ _ | refine belowIter ?_ ?_ _ _ | refine Below.setCell ?_ ?_ _ | refine Below.alloc ?_ ?_ _ | refine bT hb4 ?_ ?_ | refine bT hb3 ?_ ?_ | refine bT hb2 ?_ ?_ | refine bT hb1 ?_ ?_ | refine bT hbr ?_ ?_ | refine bT hb ?_ ?_) | (simp; done) | (simp; omega) | omega))), HX2⟩
            case measure =>
              rw [HPr.out, HPQ.out]
              · omega
              · exact (by repeat' (first | (with_reducible first | exact Below.refl _ _ | refine Below.drew ?_ | refine belowDrewN ?_ _ | refine belowIter ?_ ?_ _ _ | refine Below.setCell ?_ ?_ _ | refine Below.alloc ?_ ?_ _ | refine bT hb4 ?_ ?_ | refine bT hb3 ?_ ?_ | refine bT hb2 ?_ ?_ | refine bT hb1 ?_ ?_ | refine bT hbr ?_ ?_ | refine bT hb ?_ ?_) | (simp; done) | (simp; omega) | omega))
        | some p =>
          obtain ⟨hp3, hpk, hps⟩ := partOf_some hp
          obtain ⟨c1, c2, hc⟩ := partOf_cut hp
          have k5 : (t.kind == 5) = true := by simpa using hpk
          have HCUT := Lib.hid (fun W => cut_as t.s true (partN p) c1 c2 W)
          have HPART := Lib.hid (fun W hm hS => part_in p hp3 r s q2 mb σr n4 hs m W hm hS HTr.out ((s.data.toList.drop b).length + 1) (by rw [List.length_drop]; simp; omega))
          cases hx : partC p ((s.data.toList.drop b).length + 1) (s.data.toList.drop q2) σr with
          | bad k =>
            obtain rfl : R = .bad k := by rw [← HX.out, readF_pbad hn h0 hp hx]
            rw [hx] at HPART
            obtain ⟨P, hP⟩ : ∃ P, partN p = P := ⟨_, rfl⟩
            rw [hP] at HPART HCUT hc
            clear hn n1 n2 n3 n6 hp hx hP c1 c2 hps hpk
            go_wp2_with fail
            refine (HW.out _ hmr hSr.q).mono ?_
            rintro e w1 ⟨rfl, hr1, hs1⟩
            have hS1 : SQ w1 r s q2 mb σr := ⟨hr1, hSr.m.bes hs1 (hSr.m.ne hSr.q)⟩
            have hz1 := hs1.size
            have hzr := HB.out.size
            simp at hzr
            have HB1 := Lib.hid (HB.out.trans (hs1.any mb))
            have hm1 : MaxW w1 m := hm.bes2 ((Bes2.of_below (show Below w.heap.size w (w.alloc (.cells #[.int .i64 0] 24)) from (by repeat' (first | (with_reducible first | exact Below.refl _ _ | refine Below.drew ?_ | refine belowDrewN ?_ _ | refine belowIter ?_ ?_ _ _ | refine Below.setCell ?_ ?_ _ | refine Below.alloc ?_ ?_ _ | refine bT hb4 ?_ ?_ | refine bT hb3 ?_ ?_ | refine bT hb2 ?_ ?_ | refine bT hb1 ?_ ?_ | refine bT hbr ?_ ?_ | refine bT hb ?_ ?_) | (simp; done) | (simp; omega) | omega)))).trans HB1.out) hnr.out hnm.out
            unfold ctkV
            go_wp2_with fail
            refine (HCUT.out _).mono ?_
            rintro e w3 ⟨rfl, rfl⟩
            go_wp2_with fail
            refine (parts_as _ _ _ _ hc _ (by simp [go_sem, partN]) (by simp [go_sem, partN]) (by simp [go_sem, partN])).mono ?_
            rintro e w4 ⟨rfl, rfl⟩
            go_wp2_with fail
            refine (HPART.out _ (hm1.below (by repeat' (first | (with_reducible first | exact Below.refl _ _ | refine Below.drew ?_ | refine belowDrewN ?_ _ | refine belowIter ?_ ?_ _ _ | refine Below.setCell ?_ ?_ _ | refine Below.alloc ?_ ?_ _ | refine bT hb4 ?_ ?_ | refine bT hb3 ?_ ?_ | refine bT hb2 ?_ ?_ | refine bT hb1 ?_ ?_ | refine bT hbr ?_ ?_ | refine bT hb ?_ ?_) | (simp; done) | (simp; omega) | omega))) (hS1.below (by repeat' (first | (with_reducible first | exact Below.refl _ _ | refine Below.drew ?_ | refine belowDrewN ?_ _ | refine belowIter ?_ ?_ _ _ | refine Below.setCell ?_ ?_ _ | refine Below.alloc ?_ ?_ _ | refine bT hb4 ?_ ?_ | refine bT hb3 ?_ ?_ | refine bT hb2 ?_ ?_ | refine bT hb1 ?_ ?_ | refine bT hbr ?_ ?_ | refine bT hb ?_ ?_) | (simp; done) | (simp; omega) | omega)))).mono ?_
            rintro e w5 ⟨rfl, hs5⟩
            go_wp2
            have HBE := Lib.hid ((HB1.out.below (show Below w1.heap.size w1 _ from (by repeat' (first | (with_reducible first | exact Below.refl _ _ | refine Below.drew ?_ | refine belowDrewN ?_ _ | refine belowIter ?_ ?_ _ _ | refine Below.setCell ?_ ?_ _ | refine Below.alloc ?_ ?_ _ | refine bT hb4 ?_ ?_ | refine bT hb3 ?_ ?_ | refine bT hb2 ?_ ?_ | refine bT hb1 ?_ ?_ | refine bT hbr ?_ ?_ | refine bT hb ?_ ?_) | (simp; done) | (simp; omega) | omega)))).trans hs5)
            obtain ⟨hE0, hE1⟩ := herr _ HBE.out
            refine leaves_cons (f := 42) (args := #[.pointer (some ⟨w.heap.size, 0, none⟩)]) (by simp) (by simp [go_sem]) ?_
            refine (rface_catch _ k 0 _ _ hE0 hE1).mono ?_
            rintro e u' w'' ⟨rfl, rfl, rfl⟩
            simp [Leaves, settle, results, Tryz.results24, go_sem, hE0, hE1]
            exact ⟨rfl, ((Bes2.of_below (show Below w.heap.size w (w.alloc (.cells #[.int .i64 0] 24)) from (by repeat' (first | (with_reducible first | exact Below.refl _ _ | refine Below.drew ?_ | refine belowDrewN ?_ _ | refine belowIter ?_ ?_ _ _ | refine Below.setCell ?_ ?_ _ | refine Below.alloc ?_ ?_ _ | refine bT hb4 ?_ ?_ | refine bT hb3 ?_ ?_ | refine bT hb2 ?_ ?_ | refine bT hb1 ?_ ?_ | refine bT hbr ?_ ?_ | refine bT hb ?_ ?_) | (simp; done) | (simp; omega) | omega)))).trans HBE.out).belowB (show Below w.heap.size _ _ from (by repeat' (first | (with_reducible first | exact Below.refl _ _ | refine Below.drew ?_ | refine belowDrewN ?_ _ | refine belowIter ?_ ?_ _ _ | refine Below.setCell ?_ ?_ _ | refine Below.alloc ?_ ?_ _ | refine bT hb4 ?_ ?_ | refine bT hb3 ?_ ?_ | refine bT hb2 ?_ ?_ | refine bT hb1 ?_ ?_ | refine bT hbr ?_ ?_ | refine bT hb ?_ ?_) | (simp; done) | (simp; omega) | omega))) (Nat.le_refl _)⟩
          | good y =>
            obtain ⟨σ5, l5⟩ := y
            have HX2 := Lib.hid (show readF n l5 σ5 = R by rw [← HX.out, readF_more hn h0 hp hx])
            have HLEN := Lib.hid (show l5.length ≤ s.size - q2 by
              have := partC_len hx
              have h2 : s.data.toList.length = s.size := by simp
              rw [List.length_drop, h2] at this; omega)
            rw [hx] at HPART
            obtain ⟨P, hP⟩ : ∃ P, partN p = P := ⟨_, rfl⟩
            rw [hP] at HPART HCUT hc
            clear hn n1 n2 n3 n6 hp hx hP c1 c2 hps hpk HX
            go_wp2_with fail
            refine (HW.out _ hmr hSr.q).mono ?_
            rintro e w1 ⟨rfl, hr1, hs1⟩
            have hS1 : SQ w1 r s q2 mb σr := ⟨hr1, hSr.m.bes hs1 (hSr.m.ne hSr.q)⟩
            have hz1 := hs1.size
            have hzr := HB.out.size
            simp at hzr
            have HB1 := Lib.hid (HB.out.trans (hs1.any mb))
            have hm1 : MaxW w1 m := hm.bes2 ((Bes2.of_below (show Below w.heap.size w (w.alloc (.cells #[.int .i64 0] 24)) from (by repeat' (first | (with_reducible first | exact Below.refl _ _ | refine Below.drew ?_ | refine belowDrewN ?_ _ | refine belowIter ?_ ?_ _ _ | refine Below.setCell ?_ ?_ _ | refine Below.alloc ?_ ?_ _ | refine bT hb4 ?_ ?_ | refine bT hb3 ?_ ?_ | refine bT hb2 ?_ ?_ | refine bT hb1 ?_ ?_ | refine bT hbr ?_ ?_ | refine bT hb ?_ ?_) | (simp; done) | (simp; omega) | omega)))).trans HB1.out) hnr.out hnm.out
            unfold ctkV
            go_wp2_with fail
            refine (HCUT.out _).mono ?_
            rintro e w3 ⟨rfl, rfl⟩
            go_wp2_with fail
            refine (parts_as _ _ _ _ hc _ (by simp [go_sem, partN]) (by simp [go_sem, partN]) (by simp [go_sem, partN])).mono ?_
            rintro e w4 ⟨rfl, rfl⟩
            go_wp2_with fail
            refine (HPART.out _ (hm1.below (by repeat' (first | (with_reducible first | exact Below.refl _ _ | refine Below.drew ?_ | refine belowDrewN ?_ _ | refine belowIter ?_ ?_ _ _ | refine Below.setCell ?_ ?_ _ | refine Below.alloc ?_ ?_ _ | refine bT hb4 ?_ ?_ | refine bT hb3 ?_ ?_ | refine bT hb2 ?_ ?_ | refine bT hb1 ?_ ?_ | refine bT hbr ?_ ?_ | refine bT hb ?_ ?_) | (simp; done) | (simp; omega) | omega))) (hS1.below (by repeat' (first | (with_reducible first | exact Below.refl _ _ | refine Below.drew ?_ | refine belowDrewN ?_ _ | refine belowIter ?_ ?_ _ _ | refine Below.setCell ?_ ?_ _ | refine Below.alloc ?_ ?_ _ | refine bT hb4 ?_ ?_ | refine bT hb3 ?_ ?_ | refine bT hb2 ?_ ?_ | refine bT hb1 ?_ ?_ | refine bT hbr ?_ ?_ | refine bT hb ?_ ?_) | (simp; done) | (simp; omega) | omega)))).mono ?_
            rintro e w5 ⟨rfl, a5, ha5, e5, hS5, ht5, hs5⟩
            have HB5 := Lib.hid ((HB1.out.below (show Below w1.heap.size w1 _ from (by repeat' (first | (with_reducible first | exact Below.refl _ _ | refine Below.drew ?_ | refine belowDrewN ?_ _ | refine belowIter ?_ ?_ _ _ | refine Below.setCell ?_ ?_ _ | refine Below.alloc ?_ ?_ _ | refine bT hb4 ?_ ?_ | refine bT hb3 ?_ ?_ | refine bT hb2 ?_ ?_ | refine bT hb1 ?_ ?_ | refine bT hbr ?_ ?_ | refine bT hb ?_ ?_) | (simp; done) | (simp; omega) | omega)))).trans hs5)
            have HP5 := Lib.hid (hS5.q.pos)
            have HPr := Lib.hid hSr.q.pos
            have hlt5 : b < a5 := by
              have h2 : s.data.toList.length = s.size := by simp
              have := HLEN.out
              have := congrArg List.length e5
              rw [List.length_drop, h2] at this; omega
            subst e5
            have HH := Lib.hid (And.intro ht5 HX2.out)
            clear ht5
            go_wp2
            go_roundw
            case rel => exact ⟨a5, n, σ5, ha5, Lib.hid (by have := HN.out; omega), hS5, Lib.hid HH.out.1, HB5, Lib.hid HH.out.2⟩
            case measure => rw [HPr.out, HP5.out]; omega
end Go.Proofs.YtibffdaljmmdoaaGreatDoor
