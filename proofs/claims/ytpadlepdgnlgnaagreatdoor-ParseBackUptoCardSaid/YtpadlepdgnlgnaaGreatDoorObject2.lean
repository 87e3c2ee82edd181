/- The walk of parse's object reader: arrays and dictionaries, given their own walks; all kinds together. -/
import Derived.Test.YtpadlepdgnlgnaaGreatDoorObject
set_option linter.all false
namespace Go.Proofs.YtpadlepdgnlgnaaGreatDoor
open Go.RowKit Fo

theorem ObjAt.shape {S : Nat → Prop} {d : Nat} {w : World} {cs : List Value} {o : Ob} (h : ObjAt S d w cs o) : ∃ p1 n1 c1 p2 n2 c2, cs = objCells o.kind o.n o.g o.s (.slice p1 n1 c1) (.slice p2 n2 c2) := by
  cases d with
  | zero => exact h.elim
  | succ d =>
    obtain ⟨kv, dv, h1, h2, h3⟩ := h
    have a1 : ∃ p n c, kv = .slice p n c := by
      rcases h2 with ⟨_, p, c, h⟩ | ⟨b, o, c, h, _⟩
      · exact ⟨_, _, _, h⟩
      · exact ⟨_, _, _, h⟩
    have a2 : ∃ p n c, dv = .slice p n c := by
      rcases h3 with ⟨_, p, c, h⟩ | ⟨b, o, c, h, _⟩
      · exact ⟨_, _, _, h⟩
      · exact ⟨_, _, _, h⟩
    obtain ⟨p1, n1, c1, rfl⟩ := a1
    obtain ⟨p2, n2, c2, rfl⟩ := a2
    exact ⟨p1, n1, c1, p2, n2, c2, h1⟩
theorem objAt_out {B n d : Nat} {w2 w3 : World} {cs : List Value} {o : Ob} (h : ObjAt (fun b => n ≤ b) d w2 cs o) (hB : B ≤ n) (hk : ∀ b, n ≤ b → w3.heap[b]? = w2.heap[b]?) : ObjAt (fun b => B ≤ b) d w3 cs o :=
  (ObjAt.kept (fun b hb => hk b hb) d h).weaken (fun b hb _ => Nat.le_trans hB hb) d
set_option maxRecDepth 100000 in
set_option maxHeartbeats 1000000 in
theorem object_arr (s : ByteArray) (a : Nat) (q : Nat) (r : Nat) (t : Tok) (p d : Int) (hd0 : d < 24) (hd1 : -1000 < d) (h : beginsS t = true) (w : World) (hs : s.size ≤ 140737488355327) (m : Int) (hm : MaxW w m) (hr : RdAt w r s a)
    (hk : t.kind = 6) (hn : t.s = [91]) (d2 : Nat) (R : Res (Ob × L))
    (HC : ∀ W, MaxW W m → RdAt W r s a → Calls Tryz.prog 74 #[.pointer (some ⟨r, 0, none⟩), .int .i64 (d + 1)] W (RdPost r s d2 W R)) :
    Calls Tryz.prog 36 #[.pointer (some ⟨r, 0, none⟩), .agg #[.int .i64 t.kind, .int .i64 p, .int .i64 q, .int .i64 t.n, .string ⟨t.s.toArray⟩], .int .i64 d] w (RdPost r s d2 w R) := by
  have hn' : (t.s == [91]) = true := by rw [hn]; decide
  clear hn
  have t1 : (t.kind == 1) = false := by simp [hk]
  have t2 : (t.kind == 2) = false := by simp [hk]
  have t3 : (t.kind == 3) = false := by simp [hk]
  have t4 : (t.kind == 4) = false := by simp [hk]
  have t5 : (t.kind == 5) = false := by simp [hk]
  have hlt := hr.lt
  have HCH := Lib.hid HC
  clear hk HC
  have H := Lib.hid h
  clear h
  have hd : decide (24 ≤ d) = false := by simp; omega
  go_enter Tryz.func36, Tryz.ntmps36
  go_wp2_with fail
  refine (begins_tok t _ _ true H.out _).mono ?_
  rintro e w1 ⟨rfl, hb⟩
  obtain ⟨hc, hf⟩ := bcell hb
  have hz : w.heap.size + 1 < w1.heap.size := by have := hb.size; simp at this; omega
  go_wp2_with fail
  refine (HCH.out _ (hm.below (by repeat' (first | (with_reducible exact Below.refl _ _) | (with_reducible refine Below.drew ?_) | (with_reducible refine belowDrewN ?_ _) | (with_reducible refine belowIter ?_ ?_ _ _) | (with_reducible refine Below.setCell ?_ ?_ _) | (with_reducible refine Below.alloc ?_ ?_ _) | (with_reducible refine Below.trans ?_ (Below.mono hb4 ?_)) | (with_reducible refine Below.trans ?_ (Below.mono hb3 ?_)) | (with_reducible refine Below.trans ?_ (Below.mono hb2 ?_)) | (with_reducible refine Below.trans ?_ (Below.mono hb1 ?_)) | (with_reducible refine Below.trans ?_ (Below.mono hbr ?_)) | (with_reducible refine Below.trans ?_ (Below.mono hb ?_)) | (simp; done) | (simp; omega) | omega))) (hr.below (by repeat' (first | (with_reducible exact Below.refl _ _) | (with_reducible refine Below.drew ?_) | (with_reducible refine belowDrewN ?_ _) | (with_reducible refine belowIter ?_ ?_ _ _) | (with_reducible refine Below.setCell ?_ ?_ _) | (with_reducible refine Below.alloc ?_ ?_ _) | (with_reducible refine Below.trans ?_ (Below.mono hb4 ?_)) | (with_reducible refine Below.trans ?_ (Below.mono hb3 ?_)) | (with_reducible refine Below.trans ?_ (Below.mono hb2 ?_)) | (with_reducible refine Below.trans ?_ (Below.mono hb1 ?_)) | (with_reducible refine Below.trans ?_ (Below.mono hbr ?_)) | (with_reducible refine Below.trans ?_ (Below.mono hb ?_)) | (simp; done) | (simp; omega) | omega)))).mono ?_
  intro e w2 hpost
  have hbw1 : Below w.heap.size w w1 := (by repeat' (first | (with_reducible exact Below.refl _ _) | (with_reducible refine Below.drew ?_) | (with_reducible refine belowDrewN ?_ _) | (with_reducible refine belowIter ?_ ?_ _ _) | (with_reducible refine Below.setCell ?_ ?_ _) | (with_reducible refine Below.alloc ?_ ?_ _) | (with_reducible refine Below.trans ?_ (Below.mono hb4 ?_)) | (with_reducible refine Below.trans ?_ (Below.mono hb3 ?_)) | (with_reducible refine Below.trans ?_ (Below.mono hb2 ?_)) | (with_reducible refine Below.trans ?_ (Below.mono hb1 ?_)) | (with_reducible refine Below.trans ?_ (Below.mono hbr ?_)) | (with_reducible refine Below.trans ?_ (Below.mono hb ?_)) | (simp; done) | (simp; omega) | omega))
  cases R with
  | bad k =>
    obtain ⟨rfl, hs2⟩ := hpost
    have hs3 : Bes r w w2 := (Bes.of_below hbw1).trans hs2
    exact ⟨rfl, rfl, hs3⟩
  | good R =>
    obtain ⟨o, rest⟩ := R
    obtain ⟨cs, z, rfl, hz1, hz2, hO, hR2, hs2⟩ := hpost
    obtain ⟨p1, n1, c1, p2, n2, c2, hcs⟩ := hO.shape
    rw [hcs] at hO
    rw [hcs]
    have hr0 : ∀ o, w2.cell? ⟨w.heap.size + 1, o, none⟩ = w1.cell? ⟨w.heap.size + 1, o, none⟩ := fun o => World.cell?_of_block (hs2.block _ (by show w.heap.size + 1 < _; omega) (by show w.heap.size + 1 ≠ r; omega))
    have hr1 : ∀ o, w2.frozen? ⟨w.heap.size + 1, o, none⟩ = w1.frozen? ⟨w.heap.size + 1, o, none⟩ := fun o => World.frozen?_of_block (hs2.block _ (by show w.heap.size + 1 < _; omega) (by show w.heap.size + 1 ≠ r; omega))
    have hz3 : w.heap.size + 1 < w2.heap.size := by have := hs2.size; omega
    have hs3 : Bes r w w2 := (Bes.of_below hbw1).trans hs2
    have HZ := Lib.hid (And.intro hz2 hO)
    have hkv : ∀ (w3 : World), (∀ b, w1.heap.size ≤ b → w3.heap[b]? = w2.heap[b]?) → ObjAt (fun b => w.heap.size ≤ b) d2 w3 (objCells o.kind o.n o.g o.s (.slice p1 n1 c1) (.slice p2 n2 c2)) o := fun w3 h3 => objAt_out hO (by omega) h3
    have HKV := Lib.hid hkv
    clear hz2 hs2 hcs hO hkv
    unfold objCells
    go_wp2
    refine bodyPost_ret (v := .agg #[.int .i64 o.kind, .int .i64 o.n, .int .i64 o.g, .string ⟨o.s.toArray⟩, .slice p1 n1 c1, .slice p2 n2 c2]) (by simp [results, Tryz.results36, go_sem, hr0, hr1, hc, hf, hz, hz3]) rfl ?_
    refine ⟨_, z, rfl, hz1, HZ.out.1, HKV.out _ ?_, hR2.belowB (B := r + 1) (by repeat' (first | (with_reducible exact Below.refl _ _) | (with_reducible refine Below.setCell ?_ ?_ _) | (with_reducible refine Below.alloc ?_ ?_ _) | (show _ ≤ _; simp; done) | (show _ ≤ _; simp; omega) | omega)) (by omega), ?_⟩
    · intro b hb
      rw [Below.heap_setCell _ _ _ _ (by show b ≠ w.heap.size + 1; omega), Below.heap_setCell _ _ _ _ (by show b ≠ w.heap.size + 1; omega), Below.heap_setCell _ _ _ _ (by show b ≠ w.heap.size + 1; omega), Below.heap_setCell _ _ _ _ (by show b ≠ w.heap.size + 1; omega), Below.heap_setCell _ _ _ _ (by show b ≠ w.heap.size + 1; omega), Below.heap_setCell _ _ _ _ (by show b ≠ w.heap.size + 1; omega)]
    · (repeat' (first | (with_reducible exact hs3) | (with_reducible refine Bes.setCell_new ?_ ?_ _) | (with_reducible refine Bes.alloc ?_ _) | (show _ ≤ _; simp; done) | (show _ ≤ _; simp; omega) | omega))
set_option maxRecDepth 100000 in
set_option maxHeartbeats 1000000 in
theorem object_dict (s : ByteArray) (a : Nat) (q : Nat) (r : Nat) (t : Tok) (p d : Int) (hd0 : d < 24) (hd1 : -1000 < d) (h : beginsS t = true) (w : World) (hs : s.size ≤ 140737488355327) (m : Int) (hm : MaxW w m) (hr : RdAt w r s a)
    (hk : t.kind = 6) (hn : ¬ t.s = [91]) (d2 : Nat) (R : Res (Ob × L))
    (HC : ∀ W, MaxW W m → RdAt W r s a → Calls Tryz.prog 75 #[.pointer (some ⟨r, 0, none⟩), .int .i64 (d + 1)] W (RdPost r s d2 W R)) :
    Calls Tryz.prog 36 #[.pointer (some ⟨r, 0, none⟩), .agg #[.int .i64 t.kind, .int .i64 p, .int .i64 q, .int .i64 t.n, .string ⟨t.s.toArray⟩], .int .i64 d] w (RdPost r s d2 w R) := by
  have hn' : (t.s == [91]) = false := by simpa using hn
  clear hn
  have t1 : (t.kind == 1) = false := by simp [hk]
  have t2 : (t.kind == 2) = false := by simp [hk]
  have t3 : (t.kind == 3) = false := by simp [hk]
  have t4 : (t.kind == 4) = false := by simp [hk]
  have t5 : (t.kind == 5) = false := by simp [hk]
  have hlt := hr.lt
  have HCH := Lib.hid HC
  clear hk HC
  have H := Lib.hid h
  clear h
  have hd : decide (24 ≤ d) = false := by simp; omega
  go_enter Tryz.func36, Tryz.ntmps36
  go_wp2_with fail
  refine (begins_tok t _ _ true H.out _).mono ?_
  rintro e w1 ⟨rfl, hb⟩
  obtain ⟨hc, hf⟩ := bcell hb
  have hz : w.heap.size + 1 < w1.heap.size := by have := hb.size; simp at this; omega
  go_wp2_with fail
  refine (HCH.out _ (hm.below (by repeat' (first | (with_reducible exact Below.refl _ _) | (with_reducible refine Below.drew ?_) | (with_reducible refine belowDrewN ?_ _) | (with_reducible refine belowIter ?_ ?_ _ _) | (with_reducible refine Below.setCell ?_ ?_ _) | (with_reducible refine Below.alloc ?_ ?_ _) | (with_reducible refine Below.trans ?_ (Below.mono hb4 ?_)) | (with_reducible refine Below.trans ?_ (Below.mono hb3 ?_)) | (with_reducible refine Below.trans ?_ (Below.mono hb2 ?_)) | (with_reducible refine Below.trans ?_ (Below.mono hb1 ?_)) | (with_reducible refine Below.trans ?_ (Below.mono hbr ?_)) | (with_reducible refine Below.trans ?_ (Below.mono hb ?_)) | (simp; done) | (simp; omega) | omega))) (hr.below (by repeat' (first | (with_reducible exact Below.refl _ _) | (with_reducible refine Below.drew ?_) | (with_reducible refine belowDrewN ?_ _) | (with_reducible refine belowIter ?_ ?_ _ _) | (with_reducible refine Below.setCell ?_ ?_ _) | (with_reducible refine Below.alloc ?_ ?_ _) | (with_reducible refine Below.trans ?_ (Below.mono hb4 ?_)) | (with_reducible refine Below.trans ?_ (Below.mono hb3 ?_)) | (with_reducible refine Below.trans ?_ (Below.mono hb2 ?_)) | (with_reducible refine Below.trans ?_ (Below.mono hb1 ?_)) | (with_reducible refine Below.trans ?_ (Below.mono hbr ?_)) | (with_reducible refine Below.trans ?_ (Below.mono hb ?_)) | (simp; done) | (simp; omega) | omega)))).mono ?_
  intro e w2 hpost
  have hbw1 : Below w.heap.size w w1 := (by repeat' (first | (with_reducible exact Below.refl _ _) | (with_reducible refine Below.drew ?_) | (with_reducible refine belowDrewN ?_ _) | (with_reducible refine belowIter ?_ ?_ _ _) | (with_reducible refine Below.setCell ?_ ?_ _) | (with_reducible refine Below.alloc ?_ ?_ _) | (with_reducible refine Below.trans ?_ (Below.mono hb4 ?_)) | (with_reducible refine Below.trans ?_ (Below.mono hb3 ?_)) | (with_reducible refine Below.trans ?_ (Below.mono hb2 ?_)) | (with_reducible refine Below.trans ?_ (Below.mono hb1 ?_)) | (with_reducible refine Below.trans ?_ (Below.mono hbr ?_)) | (with_reducible refine Below.trans ?_ (Below.mono hb ?_)) | (simp; done) | (simp; omega) | omega))
  cases R with
  | bad k =>
    obtain ⟨rfl, hs2⟩ := hpost
    have hs3 : Bes r w w2 := (Bes.of_below hbw1).trans hs2
    exact ⟨rfl, rfl, hs3⟩
  | good R =>
    obtain ⟨o, rest⟩ := R
    obtain ⟨cs, z, rfl, hz1, hz2, hO, hR2, hs2⟩ := hpost
    obtain ⟨p1, n1, c1, p2, n2, c2, hcs⟩ := hO.shape
    rw [hcs] at hO
    rw [hcs]
    have hr0 : ∀ o, w2.cell? ⟨w.heap.size + 1, o, none⟩ = w1.cell? ⟨w.heap.size + 1, o, none⟩ := fun o => World.cell?_of_block (hs2.block _ (by show w.heap.size + 1 < _; omega) (by show w.heap.size + 1 ≠ r; omega))
    have hr1 : ∀ o, w2.frozen? ⟨w.heap.size + 1, o, none⟩ = w1.frozen? ⟨w.heap.size + 1, o, none⟩ := fun o => World.frozen?_of_block (hs2.block _ (by show w.heap.size + 1 < _; omega) (by show w.heap.size + 1 ≠ r; omega))
    have hz3 : w.heap.size + 1 < w2.heap.size := by have := hs2.size; omega
    have hs3 : Bes r w w2 := (Bes.of_below hbw1).trans hs2
    have HZ := Lib.hid (And.intro hz2 hO)
    have hkv : ∀ (w3 : World), (∀ b, w1.heap.size ≤ b → w3.heap[b]? = w2.heap[b]?) → ObjAt (fun b => w.heap.size ≤ b) d2 w3 (objCells o.kind o.n o.g o.s (.slice p1 n1 c1) (.slice p2 n2 c2)) o := fun w3 h3 => objAt_out hO (by omega) h3
    have HKV := Lib.hid hkv
    clear hz2 hs2 hcs hO hkv
    unfold objCells
    go_wp2
    refine bodyPost_ret (v := .agg #[.int .i64 o.kind, .int .i64 o.n, .int .i64 o.g, .string ⟨o.s.toArray⟩, .slice p1 n1 c1, .slice p2 n2 c2]) (by simp [results, Tryz.results36, go_sem, hr0, hr1, hc, hf, hz, hz3]) rfl ?_
    refine ⟨_, z, rfl, hz1, HZ.out.1, HKV.out _ ?_, hR2.belowB (B := r + 1) (by repeat' (first | (with_reducible exact Below.refl _ _) | (with_reducible refine Below.setCell ?_ ?_ _) | (with_reducible refine Below.alloc ?_ ?_ _) | (show _ ≤ _; simp; done) | (show _ ≤ _; simp; omega) | omega)) (by omega), ?_⟩
    · intro b hb
      rw [Below.heap_setCell _ _ _ _ (by show b ≠ w.heap.size + 1; omega), Below.heap_setCell _ _ _ _ (by show b ≠ w.heap.size + 1; omega), Below.heap_setCell _ _ _ _ (by show b ≠ w.heap.size + 1; omega), Below.heap_setCell _ _ _ _ (by show b ≠ w.heap.size + 1; omega), Below.heap_setCell _ _ _ _ (by show b ≠ w.heap.size + 1; omega), Below.heap_setCell _ _ _ _ (by show b ≠ w.heap.size + 1; omega)]
    · (repeat' (first | (with_reducible exact hs3) | (with_reducible refine Bes.setCell_new ?_ ?_ _) | (with_reducible refine Bes.alloc ?_ _) | (show _ ≤ _; simp; done) | (show _ ≤ _; simp; omega) | omega))
end Go.Proofs.YtpadlepdgnlgnaaGreatDoor
