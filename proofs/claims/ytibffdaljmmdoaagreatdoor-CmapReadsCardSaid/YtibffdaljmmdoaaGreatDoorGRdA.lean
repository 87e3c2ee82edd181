/- The walks of the mapping's reader: tokens, codes, spans, texts. -/
import Derived.Test.YtibffdaljmmdoaaGreatDoorGCm
import Derived.Test.YtibffdaljmmdoaaGreatDoorGLexB
import Derived.Deep.RegionHeld3
import Derived.Deep.DeepCutAuto
import Derived.Maps.RangeWalk
import Derived.Maps.StringElems
import Derived.Maps.Own
import Derived.Sort.KeysCollected
import Derived.Test.YtibffdaljmmdoaaGreatDoorGUtf
import Derived.Maps.OwnSet
import Derived.OwnWalk
import Derived.Deep.LoopGhost
import Derived.Test.YtibffdaljmmdoaaGreatDoorGPlain
import Derived.Laws.OwnMore
set_option linter.all false
/- The reader of a character code mapping: its memory; must; its next token. -/
namespace Go.Proofs.YtibffdaljmmdoaaGreatDoor
open Go.RowKit Fo Go.Maps

/-- Only blocks r and m, of what was there, may have turned. -/
structure Bes2 (r m : Nat) (w w' : World) : Prop where
  os : w'.os = w.os
  tape : w'.tape = w.tape
  output : w'.output = w.output
  size : w.heap.size ≤ w'.heap.size
  block : ∀ k, k < w.heap.size → k ≠ r → k ≠ m → w'.heap[k]? = w.heap[k]?
theorem Bes2.refl (r m : Nat) (w : World) : Bes2 r m w w := ⟨rfl, rfl, rfl, Nat.le_refl _, fun _ _ _ _ => rfl⟩
theorem Bes2.trans {r m : Nat} {a b c : World} (h : Bes2 r m a b) (k : Bes2 r m b c) : Bes2 r m a c :=
  ⟨k.os.trans h.os, k.tape.trans h.tape, k.output.trans h.output, Nat.le_trans h.size k.size, fun i hi hr hm => (k.block i (Nat.lt_of_lt_of_le hi h.size) hr hm).trans (h.block i hi hr hm)⟩
theorem Bes2.of_below {r m : Nat} {w w' : World} (h : Below w.heap.size w w') : Bes2 r m w w' := ⟨h.os, h.tape, h.output, h.size, fun k hk _ _ => h.block k hk⟩
theorem Bes2.below {r m : Nat} {a w w' : World} (h : Bes2 r m a w) (hb : Below w.heap.size w w') : Bes2 r m a w' := h.trans (.of_below hb)
theorem Bes2.belowB {r m B : Nat} {a w w' : World} (h : Bes2 r m a w) (hb : Below B w w') (hB : a.heap.size ≤ B) : Bes2 r m a w' :=
  ⟨hb.os.trans h.os, hb.tape.trans h.tape, hb.output.trans h.output, Nat.le_trans h.size hb.size, fun i hi hr hm => (hb.block i (by omega)).trans (h.block i hi hr hm)⟩
theorem Bes2.setCell {r m : Nat} {a w : World} (h : Bes2 r m a w) (o : Nat) (v : Value) : Bes2 r m a (w.setCell ⟨r, o, none⟩ v) :=
  ⟨h.os, h.tape, h.output, by simp [World.setCell]; exact h.size, fun k hk hr hm => (Below.heap_setCell _ _ _ _ (by simpa using hr)).trans (h.block k hk hr hm)⟩
theorem Bes2.setCell_new {r m : Nat} {a w : World} (h : Bes2 r m a w) {p : Addr} (hp : a.heap.size ≤ p.block) (v : Value) : Bes2 r m a (w.setCell p v) :=
  ⟨h.os, h.tape, h.output, by simp [World.setCell]; exact h.size, fun k hk hr hm => (Below.heap_setCell _ _ _ _ (by omega)).trans (h.block k hk hr hm)⟩
theorem Bes2.alloc {r m : Nat} {a w : World} (h : Bes2 r m a w) (o : Go.Obj) : Bes2 r m a (w.alloc o) :=
  ⟨h.os, h.tape, h.output, by simp; have := h.size; omega, fun k hk hr hm => (Below.heap_alloc _ _ _ (Nat.lt_of_lt_of_le hk h.size)).trans (h.block k hk hr hm)⟩
theorem Bes2.drew {r m : Nat} {a w : World} (h : Bes2 r m a w) : Bes2 r m a w.drew := ⟨h.os, h.tape, h.output, h.size, h.block⟩
theorem Bes2.drewN {r m : Nat} {a w : World} (h : Bes2 r m a w) (n : Nat) : Bes2 r m a (w.drewN n) := ⟨h.os, h.tape, h.output, h.size, h.block⟩
theorem Bes2.any {r : Nat} {w w' : World} (h : Bes2 r r w w') (m : Nat) : Bes2 r m w w' := ⟨h.os, h.tape, h.output, h.size, fun k hk hr _ => h.block k hk hr hr⟩
theorem Bes2.grown {r m : Nat} {a w w' : World} (h : Bes2 r m a w) (hg : w.grownBy w' (some m)) : Bes2 r m a w' :=
  ⟨hg.os.trans h.os, hg.tape.trans h.tape, hg.output.trans h.output, Nat.le_trans h.size hg.size, fun k hk hr hm => (hg.block k (Nat.lt_of_lt_of_le hk h.size) (fun e => hm (by cases e; rfl))).trans (h.block k hk hr hm)⟩

/-- The reader's block: the text, the place, the codes' size, the count, the map. -/
def QAt (w : World) (r : Nat) (s : ByteArray) (a z t mb : Nat) : Prop := w.heap[r]? = some (.cells #[.string s, .int .i64 a, .int .i64 z, .int .i64 t, .map (some mb)] 48 (0, 0))
theorem QAt.lt {w : World} {r : Nat} {s : ByteArray} {a z t mb : Nat} (h : QAt w r s a z t mb) : r < w.heap.size := (Array.getElem?_eq_some_iff.1 h).1
theorem QAt.cells {w : World} {r : Nat} {s : ByteArray} {a z t mb : Nat} (h : QAt w r s a z t mb) :
    w.cell? ⟨r, 0, none⟩ = some (.string s) ∧ w.cell? ⟨r, 1, none⟩ = some (.int .i64 a) ∧ w.cell? ⟨r, 2, none⟩ = some (.int .i64 z) ∧ w.cell? ⟨r, 3, none⟩ = some (.int .i64 t) ∧ w.cell? ⟨r, 4, none⟩ = some (.map (some mb)) := by
  unfold QAt at h; simp [World.cell?, h]
theorem QAt.frozen {w : World} {r : Nat} {s : ByteArray} {a z t mb : Nat} (h : QAt w r s a z t mb) (o : Nat) : w.frozen? ⟨r, o, none⟩ = false := by
  unfold QAt at h; simp [World.frozen?, h]
theorem QAt.kept {w w' : World} {r : Nat} {s : ByteArray} {a z t mb : Nat} (h : QAt w r s a z t mb) (hk : w'.heap[r]? = w.heap[r]?) : QAt w' r s a z t mb := by
  unfold QAt at *; rw [hk]; exact h
theorem QAt.below {w w' : World} {r : Nat} {s : ByteArray} {a z t mb : Nat} (h : QAt w r s a z t mb) (hb : Below w.heap.size w w') : QAt w' r s a z t mb := h.kept (hb.block r h.lt)
theorem QAt.belowB {B : Nat} {w w' : World} {r : Nat} {s : ByteArray} {a z t mb : Nat} (h : QAt w r s a z t mb) (hb : Below B w w') (hB : r < B) : QAt w' r s a z t mb := h.kept (hb.block r hB)
theorem QAt.set1 {w : World} {r : Nat} {s : ByteArray} {a z t mb b : Nat} (h : QAt w r s a z t mb) : QAt (w.setCell ⟨r, 1, none⟩ (.int .i64 b)) r s b z t mb := by
  unfold QAt at *
  simp only [World.setCell, Array.getElem?_modify]
  simp [h]
theorem QAt.set2 {w : World} {r : Nat} {s : ByteArray} {a z t mb b : Nat} (h : QAt w r s a z t mb) : QAt (w.setCell ⟨r, 2, none⟩ (.int .i64 b)) r s a b t mb := by
  unfold QAt at *
  simp only [World.setCell, Array.getElem?_modify]
  simp [h]
theorem QAt.set3 {w : World} {r : Nat} {s : ByteArray} {a z t mb b : Nat} (h : QAt w r s a z t mb) : QAt (w.setCell ⟨r, 3, none⟩ (.int .i64 b)) r s a z b mb := by
  unfold QAt at *
  simp only [World.setCell, Array.getElem?_modify]
  simp [h]

/-- A token's value at place p, up to place q. -/
def ctkV (t : Tok) (p q : Nat) : Value := .agg #[.int .i64 t.kind, .int .i64 p, .int .i64 q, .int .i64 t.n, .string ⟨t.s.toArray⟩]
theorem clexnext_bad (s : ByteArray) (a : Nat) (k : Int) (h : (nextT (s.data.toList.drop a)).2 = .bad k) (ha : a ≤ s.size) (hs : s.size ≤ 140737488355327) (m : Int) (w : World) (hm : MaxW w m) :
    Calls Tryz.prog 63 #[.string s, .int .i64 a] w fun e w' => e = .returned (.tuple #[.agg #[.int .i64 0, .int .i64 0, .int .i64 0, .int .i64 0, .string ⟨#[]⟩], .int .i64 k]) ∧ Below w.heap.size w w' :=
  tok_bad h (next_in s a ha hs m w hm)
theorem clexnext_good (s : ByteArray) (a p : Nat) (t : Tok) (h : (nextT (s.data.toList.drop a)).2 = .good t) (hp : a + (nextT (s.data.toList.drop a)).1 = p) (ha : a ≤ s.size) (hs : s.size ≤ 140737488355327) (m : Int) (w : World) (hm : MaxW w m) :
    Calls Tryz.prog 63 #[.string s, .int .i64 a] w fun e w' => e = .returned (.tuple #[.agg #[.int .i64 t.kind, .int .i64 p, .int .i64 ((p + t.len : Nat) : Int), .int .i64 t.n, .string ⟨t.s.toArray⟩], .int .i64 0]) ∧ Below w.heap.size w w' := by
  have := tok_good h (next_in s a ha hs m w hm)
  rw [hp] at this; exact this
set_option maxHeartbeats 400000 in
theorem must_yes (k : Int) (w : World) : Calls Tryz.prog 64 #[.bool true, .int .i64 k] w fun e w' => e = .returned (.tuple #[]) ∧ w' = w := by
  go_enter Tryz.func64, Tryz.ntmps64
  go_wp2
  go_end0
  exact ⟨rfl, rfl⟩
set_option maxHeartbeats 400000 in
theorem must_no (k : Int) (w : World) : Calls Tryz.prog 64 #[.bool false, .int .i64 k] w fun e w' => e = .panicked [{ v := .iface 77 (.int .i64 k), recovered := false }] ∧ w' = w := by
  go_enter Tryz.func64, Tryz.ntmps64
  go_wp2
  exact ⟨rfl, rfl, rfl⟩
set_option maxRecDepth 100000 in
set_option maxHeartbeats 1000000 in
theorem qnext_good (r : Nat) (s : ByteArray) (a p z t0 mb : Nat) (t : Tok) (ha : a ≤ s.size) (hs : s.size ≤ 1000000000) (m : Int) (w : World) (hm : MaxW w m) (hr : QAt w r s a z t0 mb)
    (h : (nextT (s.data.toList.drop a)).2 = .good t) (hp : a + (nextT (s.data.toList.drop a)).1 = p) :
    Calls Tryz.prog 43 #[.pointer (some ⟨r, 0, none⟩)] w fun e w' => e = .returned (ctkV t p (p + t.len)) ∧ QAt w' r s (p + t.len) z t0 mb ∧ Bes2 r r w w' := by
  obtain ⟨q, hq⟩ : ∃ q, p + t.len = q := ⟨_, rfl⟩
  have HN := Lib.hid (fun W hW => clexnext_good s a p t h hp ha (by omega) m W hW)
  simp only [hq] at HN
  obtain ⟨hc0, hc1, _, _, _⟩ := hr.cells
  have hf0 := hr.frozen 1
  have hlt := hr.lt
  have hA : ∀ W, Below w.heap.size w W → MaxW W m := fun W hb => hm.below hb
  have HA := Lib.hid hA
  clear h hp hA
  go_enter Tryz.func43, Tryz.ntmps43
  go_upto_region 1 with fail
  go_cut [3, 4] (fun s3 s4 wx => ∃ g : Nat, s3 = .pointer (some ⟨g, 0, none⟩) ∧ s4 = .int .i64 0 ∧ wx.cell? ⟨g, 0, none⟩ = some (.int .i64 t.kind) ∧ wx.cell? ⟨g, 1, none⟩ = some (.int .i64 p) ∧ wx.cell? ⟨g, 2, none⟩ = some (.int .i64 q) ∧ wx.cell? ⟨g, 3, none⟩ = some (.int .i64 t.n) ∧ wx.cell? ⟨g, 4, none⟩ = some (.string ⟨t.s.toArray⟩) ∧ w.heap.size < g ∧ Below (w.heap.size + 1) (w.alloc (.cells #[.int .i64 0, .int .i64 0, .int .i64 0, .int .i64 0, .string ⟨#[]⟩] 59)) wx)
  case first =>
    have ne1 : ¬ r = w.heap.size + 1 := by omega
    have ne2 : ¬ w.heap.size + 1 = r := by omega
    go_region_held3 (fun w' => w'.cell? ⟨r, 0, none⟩ = some (.string s) ∧ w'.cell? ⟨r, 1, none⟩ = some (.int .i64 a)) (go_keep) ((go_at_call 63; refine (HN.out _ (HA.out _ (by repeat' (first | (with_reducible first | exact Below.refl _ _ | refine Below.drew ?_ | refine belowDrewN ?_ _ | refine belowIter ?_ ?_ _ _ | refine Below.setCell ?_ ?_ _ | refine Below.alloc ?_ ?_ _ | refine bT hb4 ?_ ?_ | refine bT hb3 ?_ ?_ | refine bT hb2 ?_ ?_ | refine bT hb1 ?_ ?_ | refine bT hbr ?_ ?_ | refine bT hb ?_ ?_) | (simp; done) | (simp; omega) | omega)))).mono ?_; rintro e w1 ⟨rfl, hb⟩; obtain ⟨hc, hf⟩ := bcell hb; have hz := hb.size; simp at hz; have hbw : Below w.heap.size w w1 := (by repeat' (first | (with_reducible first | exact Below.refl _ _ | refine Below.drew ?_ | refine belowDrewN ?_ _ | refine belowIter ?_ ?_ _ _ | refine Below.setCell ?_ ?_ _ | refine Below.alloc ?_ ?_ _ | refine bT hb4 ?_ ?_ | refine bT hb3 ?_ ?_ | refine bT hb2 ?_ ?_ | refine bT hb1 ?_ ?_ | refine bT hbr ?_ ?_ | refine bT hb ?_ ?_) | (simp; done) | (simp; omega) | omega)); have k0 := (hbw.cell (p := ⟨r, 0, none⟩) hlt).trans hc0; have k1 := (hbw.cell (p := ⟨r, 1, none⟩) hlt).trans hc1))
    all_goals go_wp2_with fail
    all_goals go_meet
    all_goals first
      | exact ⟨w1.heap.size, rfl, rfl, by simp [go_sem], by simp [go_sem], by simp [go_sem], by simp [go_sem], by simp [go_sem], by omega, (by repeat' (first | (with_reducible first | exact Below.refl _ _ | refine Below.drew ?_ | refine belowDrewN ?_ _ | refine belowIter ?_ ?_ _ _ | refine Below.setCell ?_ ?_ _ | refine Below.alloc ?_ ?_ _ | refine bT hb4 ?_ ?_ | refine bT hb3 ?_ ?_ | refine bT hb2 ?_ ?_ | refine bT hb1 ?_ ?_ | refine bT hbr ?_ ?_ | refine bT hb ?_ ?_) | (show _ ≤ _; simp; done) | (show _ ≤ _; simp; omega) | (simp; done) | (simp; omega) | omega))⟩
      | exact ⟨w.heap.size + 1, rfl, rfl, by simp [go_sem, hc, hf], by simp [go_sem, hc, hf], by simp [go_sem, hc, hf], by simp [go_sem, hc, hf], by simp [go_sem, hc, hf], by omega, (by repeat' (first | (with_reducible first | exact Below.refl _ _ | refine Below.drew ?_ | refine belowDrewN ?_ _ | refine belowIter ?_ ?_ _ _ | refine Below.setCell ?_ ?_ _ | refine Below.alloc ?_ ?_ _ | refine bT hb4 ?_ ?_ | refine bT hb3 ?_ ?_ | refine bT hb2 ?_ ?_ | refine bT hb1 ?_ ?_ | refine bT hbr ?_ ?_ | refine bT hb ?_ ?_) | (show _ ≤ _; simp; done) | (show _ ≤ _; simp; omega) | (simp; done) | (simp; omega) | omega))⟩
  case rest =>
    obtain ⟨g, rfl, rfl, g0, g1, g2, g3, g4, hg, hb⟩ := hcut
    obtain ⟨hc, hf⟩ := bcellB hb
    have hrw : QAt wc r s a z t0 mb := (hr.below (w' := w.alloc (.cells #[.int .i64 0, .int .i64 0, .int .i64 0, .int .i64 0, .string ⟨#[]⟩] 59)) (by repeat' (first | (with_reducible first | exact Below.refl _ _ | refine Below.drew ?_ | refine belowDrewN ?_ _ | refine belowIter ?_ ?_ _ _ | refine Below.setCell ?_ ?_ _ | refine Below.alloc ?_ ?_ _ | refine bT hb4 ?_ ?_ | refine bT hb3 ?_ ?_ | refine bT hb2 ?_ ?_ | refine bT hb1 ?_ ?_ | refine bT hbr ?_ ?_ | refine bT hb ?_ ?_) | (simp; done) | (simp; omega) | omega))).belowB hb (by omega)
    obtain ⟨_, k1, _, _, _⟩ := hrw.cells
    have kf := hrw.frozen
    have hgr : ¬ g = r := by omega
    have hrg : ¬ r = g := by omega
    have hrz : ¬ r = w.heap.size := by omega
    have hzr : ¬ w.heap.size = r := by omega
    go_wp2_with (go_at_call 64; refine (must_yes _ _).mono ?_; rintro e w1 ⟨rfl, rfl⟩)
    refine bodyPost_ret (v := ctkV t p q) (by simp [results, Tryz.results43, go_sem, hc, hf, ctkV]) rfl ⟨by rw [hq], ?_, ?_⟩
    · rw [hq]
      have hW := hrw.set1 (b := q)
      exact hW.belowB (B := r + 1) (by repeat' (first | (with_reducible first | exact Below.refl _ _ | refine Below.setCell ?_ ?_ _ | refine Below.alloc ?_ ?_ _) | (show _ ≤ _; simp; done) | (show _ ≤ _; simp; omega) | omega)) (by omega)
    · exact (by repeat' (first | (with_reducible exact Bes2.refl _ _ _) | (with_reducible refine Bes2.drew ?_) | (with_reducible refine Bes2.drewN ?_ _) | (with_reducible refine Bes2.alloc ?_ _) | (with_reducible refine Bes2.setCell ?_ _ _) | (with_reducible refine Bes2.setCell_new ?_ ?_ _) | (with_reducible refine Bes2.belowB ?_ hb5 ?_) | (with_reducible refine Bes2.belowB ?_ hb4 ?_) | (with_reducible refine Bes2.belowB ?_ hb3 ?_) | (with_reducible refine Bes2.belowB ?_ hb2 ?_) | (with_reducible refine Bes2.belowB ?_ hb1 ?_) | (with_reducible refine Bes2.belowB ?_ hbr ?_) | (with_reducible refine Bes2.belowB ?_ hb ?_) | (with_reducible refine Bes2.trans ?_ hs5) | (with_reducible refine Bes2.trans ?_ hs4) | (with_reducible refine Bes2.trans ?_ hs3) | (with_reducible refine Bes2.trans ?_ hs2) | (with_reducible refine Bes2.trans ?_ hs1) | (show _ ≤ _; simp; done) | (show _ ≤ _; simp; omega) | omega))
end Go.Proofs.YtibffdaljmmdoaaGreatDoor
/- The reader of a character code mapping: a token that fails, a token inside a section, texts and codes. -/
namespace Go.Proofs.YtibffdaljmmdoaaGreatDoor
open Go.RowKit Fo Go.Maps

set_option maxRecDepth 100000 in
set_option maxHeartbeats 1000000 in
theorem qnext_bad (r : Nat) (s : ByteArray) (a z t0 mb : Nat) (k : Int) (ha : a ≤ s.size) (hs : s.size ≤ 1000000000) (m : Int) (w : World) (hm : MaxW w m) (hr : QAt w r s a z t0 mb)
    (h : (nextT (s.data.toList.drop a)).2 = .bad k) :
    Calls Tryz.prog 43 #[.pointer (some ⟨r, 0, none⟩)] w fun e w' => e = .panicked [{ v := .iface 77 (.int .i64 k), recovered := false }] ∧ Bes2 r r w w' := by
  have HN := Lib.hid (fun W hW => clexnext_bad s a k h ha (by omega) m W hW)
  have hk1 : (k == 0) = false := by have := nextT_bad h; simp; omega
  obtain ⟨hc0, hc1, _, _, _⟩ := hr.cells
  have hf0 := hr.frozen 1
  have hlt := hr.lt
  have hA : ∀ W, Below w.heap.size w W → MaxW W m := fun W hb => hm.below hb
  have HA := Lib.hid hA
  clear h hA
  go_enter Tryz.func43, Tryz.ntmps43
  go_upto_region 1 with fail
  go_cut [3, 4] (fun s3 s4 wx => ∃ g : Nat, s3 = .pointer (some ⟨g, 0, none⟩) ∧ s4 = .int .i64 k ∧ Below (w.heap.size + 1) (w.alloc (.cells #[.int .i64 0, .int .i64 0, .int .i64 0, .int .i64 0, .string ⟨#[]⟩] 59)) wx)
  case first =>
    have ne1 : ¬ r = w.heap.size + 1 := by omega
    have ne2 : ¬ w.heap.size + 1 = r := by omega
    go_region_held3 (fun w' => w'.cell? ⟨r, 0, none⟩ = some (.string s) ∧ w'.cell? ⟨r, 1, none⟩ = some (.int .i64 a)) (go_keep) ((go_at_call 63; refine (HN.out _ (HA.out _ (by repeat' (first | (with_reducible first | exact Below.refl _ _ | refine Below.drew ?_ | refine belowDrewN ?_ _ | refine belowIter ?_ ?_ _ _ | refine Below.setCell ?_ ?_ _ | refine Below.alloc ?_ ?_ _ | refine bT hb4 ?_ ?_ | refine bT hb3 ?_ ?_ | refine bT hb2 ?_ ?_ | refine bT hb1 ?_ ?_ | refine bT hbr ?_ ?_ | refine bT hb ?_ ?_) | (simp; done) | (simp; omega) | omega)))).mono ?_; rintro e w1 ⟨rfl, hb⟩; obtain ⟨hc, hf⟩ := bcell hb; have hz := hb.size; simp at hz; have hbw : Below w.heap.size w w1 := (by repeat' (first | (with_reducible first | exact Below.refl _ _ | refine Below.drew ?_ | refine belowDrewN ?_ _ | refine belowIter ?_ ?_ _ _ | refine Below.setCell ?_ ?_ _ | refine Below.alloc ?_ ?_ _ | refine bT hb4 ?_ ?_ | refine bT hb3 ?_ ?_ | refine bT hb2 ?_ ?_ | refine bT hb1 ?_ ?_ | refine bT hbr ?_ ?_ | refine bT hb ?_ ?_) | (simp; done) | (simp; omega) | omega)); have k0 := (hbw.cell (p := ⟨r, 0, none⟩) hlt).trans hc0; have k1 := (hbw.cell (p := ⟨r, 1, none⟩) hlt).trans hc1))
    all_goals go_wp2_with fail
    all_goals go_meet
    all_goals first
      | exact ⟨w1.heap.size, rfl, rfl, (by repeat' (first | (with_reducible first | exact Below.refl _ _ | refine Below.drew ?_ | refine belowDrewN ?_ _ | refine belowIter ?_ ?_ _ _ | refine Below.setCell ?_ ?_ _ | refine Below.alloc ?_ ?_ _ | refine bT hb4 ?_ ?_ | refine bT hb3 ?_ ?_ | refine bT hb2 ?_ ?_ | refine bT hb1 ?_ ?_ | refine bT hbr ?_ ?_ | refine bT hb ?_ ?_) | (show _ ≤ _; simp; done) | (show _ ≤ _; simp; omega) | (simp; done) | (simp; omega) | omega))⟩
      | exact ⟨w.heap.size + 1, rfl, rfl, (by repeat' (first | (with_reducible first | exact Below.refl _ _ | refine Below.drew ?_ | refine belowDrewN ?_ _ | refine belowIter ?_ ?_ _ _ | refine Below.setCell ?_ ?_ _ | refine Below.alloc ?_ ?_ _ | refine bT hb4 ?_ ?_ | refine bT hb3 ?_ ?_ | refine bT hb2 ?_ ?_ | refine bT hb1 ?_ ?_ | refine bT hbr ?_ ?_ | refine bT hb ?_ ?_) | (show _ ≤ _; simp; done) | (show _ ≤ _; simp; omega) | (simp; done) | (simp; omega) | omega))⟩
  case rest =>
    obtain ⟨g, rfl, rfl, hb⟩ := hcut
    go_wp2_with (go_at_call 64; (with_reducible refine (must_no _ _).mono ?_); rintro e w9 ⟨rfl, rfl⟩)
    exact ⟨rfl, rfl, (by repeat' (first | (with_reducible exact Bes2.refl _ _ _) | (with_reducible refine Bes2.drew ?_) | (with_reducible refine Bes2.drewN ?_ _) | (with_reducible refine Bes2.alloc ?_ _) | (with_reducible refine Bes2.setCell ?_ _ _) | (with_reducible refine Bes2.setCell_new ?_ ?_ _) | (with_reducible refine Bes2.belowB ?_ hb5 ?_) | (with_reducible refine Bes2.belowB ?_ hb4 ?_) | (with_reducible refine Bes2.belowB ?_ hb3 ?_) | (with_reducible refine Bes2.belowB ?_ hb2 ?_) | (with_reducible refine Bes2.belowB ?_ hb1 ?_) | (with_reducible refine Bes2.belowB ?_ hbr ?_) | (with_reducible refine Bes2.belowB ?_ hb ?_) | (with_reducible refine Bes2.trans ?_ hs5) | (with_reducible refine Bes2.trans ?_ hs4) | (with_reducible refine Bes2.trans ?_ hs3) | (with_reducible refine Bes2.trans ?_ hs2) | (with_reducible refine Bes2.trans ?_ hs1) | (show _ ≤ _; simp; done) | (show _ ≤ _; simp; omega) | omega))⟩
theorem cfive_of {w : World} {b : Nat} {v0 v1 v2 v3 v4 : Value} {T : TypeId} (h : w.heap[b]? = some (.cells #[v0, v1, v2, v3, v4] T (0, 0))) :
    w.cell? ⟨b, 0, none⟩ = some v0 ∧ w.cell? ⟨b, 1, none⟩ = some v1 ∧ w.cell? ⟨b, 2, none⟩ = some v2 ∧ w.cell? ⟨b, 3, none⟩ = some v3 ∧ w.cell? ⟨b, 4, none⟩ = some v4 ∧ ∀ o, w.frozen? ⟨b, o, none⟩ = false := by
  simp [World.cell?, World.frozen?, h]
theorem cnew_at (w : World) (o : Go.Obj) : (w.alloc o).heap[w.heap.size]? = some o := heap_alloc_new w o
set_option maxRecDepth 100000 in
set_option maxHeartbeats 1000000 in
theorem within_good (r : Nat) (s : ByteArray) (a p q z t0 mb : Nat) (t : Tok) (ha : a ≤ s.size) (hs : s.size ≤ 1000000000) (m : Int) (w : World) (hm : MaxW w m) (hr : QAt w r s a z t0 mb) (hmb : mb < w.heap.size)
    (h : (nextT (s.data.toList.drop a)).2 = .good t) (hk : t.kind ≠ 0) (hp : a + (nextT (s.data.toList.drop a)).1 = p) (hq : p + t.len = q) :
    Calls Tryz.prog 67 #[.pointer (some ⟨r, 0, none⟩)] w fun e w' => e = .returned (ctkV t p q) ∧ QAt w' r s q z t0 mb ∧ Bes2 r r w w' := by
  have HN := Lib.hid (fun W hm hr => qnext_good r s a p z t0 mb t ha hs m W hm hr h hp)
  simp only [hq] at HN
  have hk1 : (t.kind != 0) = true := by simpa using hk
  have hlt := hr.lt
  clear h hp hk hq
  go_enter Tryz.func67, Tryz.ntmps67
  go_wp2_with fail
  refine (HN.out _ (hm.below (by repeat' (first | (with_reducible first | exact Below.refl _ _ | refine Below.drew ?_ | refine belowDrewN ?_ _ | refine belowIter ?_ ?_ _ _ | refine Below.setCell ?_ ?_ _ | refine Below.alloc ?_ ?_ _ | refine bT hb4 ?_ ?_ | refine bT hb3 ?_ ?_ | refine bT hb2 ?_ ?_ | refine bT hb1 ?_ ?_ | refine bT hbr ?_ ?_ | refine bT hb ?_ ?_) | (simp; done) | (simp; omega) | omega))) (hr.below (by repeat' (first | (with_reducible first | exact Below.refl _ _ | refine Below.drew ?_ | refine belowDrewN ?_ _ | refine belowIter ?_ ?_ _ _ | refine Below.setCell ?_ ?_ _ | refine Below.alloc ?_ ?_ _ | refine bT hb4 ?_ ?_ | refine bT hb3 ?_ ?_ | refine bT hb2 ?_ ?_ | refine bT hb1 ?_ ?_ | refine bT hbr ?_ ?_ | refine bT hb ?_ ?_) | (simp; done) | (simp; omega) | omega)))).mono ?_
  rintro e w1 ⟨rfl, hr1, hs1⟩
  have n0 := (hs1.block w.heap.size (by simp) (by omega) (by omega)).trans (cnew_at w _)
  obtain ⟨x0, x1, x2, x3, x4, xf⟩ := cfive_of n0
  have hz1 := hs1.size
  simp at hz1
  have lt1 : w.heap.size < w1.heap.size := by omega
  have ne1 : ¬ w.heap.size = w1.heap.size := by omega
  have ne2 : ¬ w1.heap.size = w.heap.size := by omega
  unfold ctkV
  go_wp2_with (go_at_call 64; (with_reducible refine (must_yes _ _).mono ?_); rintro e w9 ⟨rfl, rfl⟩)
  refine bodyPost_ret (v := ctkV t p q) (by simp [results, Tryz.results67, go_sem, ctkV, x0, x1, x2, x3, x4, xf, lt1, ne1, ne2]) rfl ⟨rfl, ?_, ?_⟩
  · exact hr1.belowB (B := r + 1) (by repeat' (first | (with_reducible first | exact Below.refl _ _ | refine Below.setCell ?_ ?_ _ | refine Below.alloc ?_ ?_ _) | (show _ ≤ _; simp; done) | (show _ ≤ _; simp; omega) | omega)) (by omega)
  · exact (by repeat' (first | (with_reducible exact Bes2.refl _ _ _) | (with_reducible refine Bes2.drew ?_) | (with_reducible refine Bes2.drewN ?_ _) | (with_reducible refine Bes2.alloc ?_ _) | (with_reducible refine Bes2.setCell ?_ _ _) | (with_reducible refine Bes2.setCell_new ?_ ?_ _) | (with_reducible refine Bes2.belowB ?_ hb5 ?_) | (with_reducible refine Bes2.belowB ?_ hb4 ?_) | (with_reducible refine Bes2.belowB ?_ hb3 ?_) | (with_reducible refine Bes2.belowB ?_ hb2 ?_) | (with_reducible refine Bes2.belowB ?_ hb1 ?_) | (with_reducible refine Bes2.belowB ?_ hbr ?_) | (with_reducible refine Bes2.belowB ?_ hb ?_) | (with_reducible refine Bes2.trans ?_ hs5) | (with_reducible refine Bes2.trans ?_ hs4) | (with_reducible refine Bes2.trans ?_ hs3) | (with_reducible refine Bes2.trans ?_ hs2) | (with_reducible refine Bes2.trans ?_ hs1) | (show _ ≤ _; simp; done) | (show _ ≤ _; simp; omega) | omega))
set_option maxRecDepth 100000 in
set_option maxHeartbeats 1000000 in
theorem within_lexbad (r : Nat) (s : ByteArray) (a z t0 mb : Nat) (k : Int) (ha : a ≤ s.size) (hs : s.size ≤ 1000000000) (m : Int) (w : World) (hm : MaxW w m) (hr : QAt w r s a z t0 mb)
    (h : (nextT (s.data.toList.drop a)).2 = .bad k) :
    Calls Tryz.prog 67 #[.pointer (some ⟨r, 0, none⟩)] w fun e w' => e = .panicked [{ v := .iface 77 (.int .i64 k), recovered := false }] ∧ Bes2 r r w w' := by
  have HN := Lib.hid (fun W hm hr => qnext_bad r s a z t0 mb k ha hs m W hm hr h)
  have hlt := hr.lt
  clear h
  go_enter Tryz.func67, Tryz.ntmps67
  go_wp2_with fail
  refine (HN.out _ (hm.below (by repeat' (first | (with_reducible first | exact Below.refl _ _ | refine Below.drew ?_ | refine belowDrewN ?_ _ | refine belowIter ?_ ?_ _ _ | refine Below.setCell ?_ ?_ _ | refine Below.alloc ?_ ?_ _ | refine bT hb4 ?_ ?_ | refine bT hb3 ?_ ?_ | refine bT hb2 ?_ ?_ | refine bT hb1 ?_ ?_ | refine bT hbr ?_ ?_ | refine bT hb ?_ ?_) | (simp; done) | (simp; omega) | omega))) (hr.below (by repeat' (first | (with_reducible first | exact Below.refl _ _ | refine Below.drew ?_ | refine belowDrewN ?_ _ | refine belowIter ?_ ?_ _ _ | refine Below.setCell ?_ ?_ _ | refine Below.alloc ?_ ?_ _ | refine bT hb4 ?_ ?_ | refine bT hb3 ?_ ?_ | refine bT hb2 ?_ ?_ | refine bT hb1 ?_ ?_ | refine bT hbr ?_ ?_ | refine bT hb ?_ ?_) | (simp; done) | (simp; omega) | omega)))).mono ?_
  rintro e w1 ⟨rfl, hs1⟩
  go_wp2
  exact ⟨rfl, rfl, (by repeat' (first | (with_reducible exact Bes2.refl _ _ _) | (with_reducible refine Bes2.drew ?_) | (with_reducible refine Bes2.drewN ?_ _) | (with_reducible refine Bes2.alloc ?_ _) | (with_reducible refine Bes2.setCell ?_ _ _) | (with_reducible refine Bes2.setCell_new ?_ ?_ _) | (with_reducible refine Bes2.belowB ?_ hb5 ?_) | (with_reducible refine Bes2.belowB ?_ hb4 ?_) | (with_reducible refine Bes2.belowB ?_ hb3 ?_) | (with_reducible refine Bes2.belowB ?_ hb2 ?_) | (with_reducible refine Bes2.belowB ?_ hb1 ?_) | (with_reducible refine Bes2.belowB ?_ hbr ?_) | (with_reducible refine Bes2.belowB ?_ hb ?_) | (with_reducible refine Bes2.trans ?_ hs5) | (with_reducible refine Bes2.trans ?_ hs4) | (with_reducible refine Bes2.trans ?_ hs3) | (with_reducible refine Bes2.trans ?_ hs2) | (with_reducible refine Bes2.trans ?_ hs1) | (show _ ≤ _; simp; done) | (show _ ≤ _; simp; omega) | omega))⟩
set_option maxRecDepth 100000 in
set_option maxHeartbeats 1000000 in
theorem within_end (r : Nat) (s : ByteArray) (a z t0 mb : Nat) (t : Tok) (ha : a ≤ s.size) (hs : s.size ≤ 1000000000) (m : Int) (w : World) (hm : MaxW w m) (hr : QAt w r s a z t0 mb) (hmb : mb < w.heap.size)
    (h : (nextT (s.data.toList.drop a)).2 = .good t) (hk : t.kind = 0) :
    Calls Tryz.prog 67 #[.pointer (some ⟨r, 0, none⟩)] w fun e w' => e = .panicked [{ v := .iface 77 (.int .i64 4), recovered := false }] ∧ Bes2 r r w w' := by
  obtain ⟨p, hp⟩ : ∃ p, a + (nextT (s.data.toList.drop a)).1 = p := ⟨_, rfl⟩
  obtain ⟨q, hq⟩ : ∃ q, p + t.len = q := ⟨_, rfl⟩
  have HN := Lib.hid (fun W hm hr => qnext_good r s a p z t0 mb t ha hs m W hm hr h hp)
  simp only [hq] at HN
  have hk1 : (t.kind != 0) = false := by simpa using hk
  have hlt := hr.lt
  clear h hp hk hq
  go_enter Tryz.func67, Tryz.ntmps67
  go_wp2_with fail
  refine (HN.out _ (hm.below (by repeat' (first | (with_reducible first | exact Below.refl _ _ | refine Below.drew ?_ | refine belowDrewN ?_ _ | refine belowIter ?_ ?_ _ _ | refine Below.setCell ?_ ?_ _ | refine Below.alloc ?_ ?_ _ | refine bT hb4 ?_ ?_ | refine bT hb3 ?_ ?_ | refine bT hb2 ?_ ?_ | refine bT hb1 ?_ ?_ | refine bT hbr ?_ ?_ | refine bT hb ?_ ?_) | (simp; done) | (simp; omega) | omega))) (hr.below (by repeat' (first | (with_reducible first | exact Below.refl _ _ | refine Below.drew ?_ | refine belowDrewN ?_ _ | refine belowIter ?_ ?_ _ _ | refine Below.setCell ?_ ?_ _ | refine Below.alloc ?_ ?_ _ | refine bT hb4 ?_ ?_ | refine bT hb3 ?_ ?_ | refine bT hb2 ?_ ?_ | refine bT hb1 ?_ ?_ | refine bT hbr ?_ ?_ | refine bT hb ?_ ?_) | (simp; done) | (simp; omega) | omega)))).mono ?_
  rintro e w1 ⟨rfl, hr1, hs1⟩
  have hz1 := hs1.size
  simp at hz1
  unfold ctkV
  go_wp2_with (go_at_call 64; (with_reducible refine (must_no _ _).mono ?_); rintro e w9 ⟨rfl, rfl⟩)
  exact ⟨rfl, rfl, (by repeat' (first | (with_reducible exact Bes2.refl _ _ _) | (with_reducible refine Bes2.drew ?_) | (with_reducible refine Bes2.drewN ?_ _) | (with_reducible refine Bes2.alloc ?_ _) | (with_reducible refine Bes2.setCell ?_ _ _) | (with_reducible refine Bes2.setCell_new ?_ ?_ _) | (with_reducible refine Bes2.belowB ?_ hb5 ?_) | (with_reducible refine Bes2.belowB ?_ hb4 ?_) | (with_reducible refine Bes2.belowB ?_ hb3 ?_) | (with_reducible refine Bes2.belowB ?_ hb2 ?_) | (with_reducible refine Bes2.belowB ?_ hb1 ?_) | (with_reducible refine Bes2.belowB ?_ hbr ?_) | (with_reducible refine Bes2.belowB ?_ hb ?_) | (with_reducible refine Bes2.trans ?_ hs5) | (with_reducible refine Bes2.trans ?_ hs4) | (with_reducible refine Bes2.trans ?_ hs3) | (with_reducible refine Bes2.trans ?_ hs2) | (with_reducible refine Bes2.trans ?_ hs1) | (show _ ≤ _; simp; done) | (show _ ≤ _; simp; omega) | omega))⟩
/-- A token inside a section, or why there is none. -/
theorem within_bad (r : Nat) (s : ByteArray) (a z t0 mb : Nat) (k : Int) (ha : a ≤ s.size) (hs : s.size ≤ 1000000000) (m : Int) (w : World) (hm : MaxW w m) (hr : QAt w r s a z t0 mb) (hmb : mb < w.heap.size)
    (h : nextS (s.data.toList.drop a) = .bad k) :
    Calls Tryz.prog 67 #[.pointer (some ⟨r, 0, none⟩)] w fun e w' => e = .panicked [{ v := .iface 77 (.int .i64 k), recovered := false }] ∧ Bes2 r r w w' := by
  unfold nextS at h
  cases hn : (nextT (s.data.toList.drop a)).2 with
  | bad e =>
    rw [hn] at h; cases h
    exact within_lexbad r s a z t0 mb k ha hs m w hm hr hn
  | good t =>
    rw [hn] at h
    dsimp only at h
    split at h
    · cases h
      exact within_end r s a z t0 mb t ha hs m w hm hr hmb hn (by assumption)
    · cases h

set_option maxRecDepth 100000 in
set_option maxHeartbeats 1000000 in
theorem text_good (t : Tok) (p q : Nat) (x : L) (hl : t.s.length ≤ 1000000000) (h : textC t = .good x) (w : World) :
    Calls Tryz.prog 92 #[.agg #[.int .i64 t.kind, .int .i64 p, .int .i64 q, .int .i64 t.n, .string ⟨t.s.toArray⟩]] w fun e w' => e = .returned (.string ⟨x.toArray⟩) ∧ Below w.heap.size w w' := by
  unfold textC at h
  split at h
  · rename_i hk
    have hk1 : (t.kind == 3) = true := by simpa using hk
    have HU := Lib.hid (fun W => utf_in ⟨t.s.toArray⟩ hl W)
    simp only at HU
    split at h
    · cases h
    · rename_i y hy
      cases h
      rw [hy] at HU
      clear hy hk hl
      go_enter Tryz.func92, Tryz.ntmps92
      go_wp2_with (first | (go_at_call 64; (with_reducible refine (must_yes _ _).mono ?_); rintro e w9 ⟨rfl, rfl⟩) | (go_at_call 17; refine (HU.out _).mono ?_; rintro e w1 ⟨rfl, hb1⟩))
      go_ret
      exact ⟨rfl, (by repeat' (first | (with_reducible first | exact Below.refl _ _ | refine Below.drew ?_ | refine belowDrewN ?_ _ | refine belowIter ?_ ?_ _ _ | refine Below.setCell ?_ ?_ _ | refine Below.alloc ?_ ?_ _ | refine bT hb4 ?_ ?_ | refine bT hb3 ?_ ?_ | refine bT hb2 ?_ ?_ | refine bT hb1 ?_ ?_ | refine bT hbr ?_ ?_ | refine bT hb ?_ ?_) | (simp; done) | (simp; omega) | omega))⟩
  · cases h
set_option maxRecDepth 100000 in
set_option maxHeartbeats 1000000 in
theorem text_bad (t : Tok) (p q : Nat) (k : Int) (hl : t.s.length ≤ 1000000000) (h : textC t = .bad k) (w : World) :
    Calls Tryz.prog 92 #[.agg #[.int .i64 t.kind, .int .i64 p, .int .i64 q, .int .i64 t.n, .string ⟨t.s.toArray⟩]] w fun e w' => e = .panicked [{ v := .iface 77 (.int .i64 k), recovered := false }] ∧ Below w.heap.size w w' := by
  unfold textC at h
  split at h
  · rename_i hk
    have hk1 : (t.kind == 3) = true := by simpa using hk
    have HU := Lib.hid (fun W => utf_in ⟨t.s.toArray⟩ hl W)
    simp only at HU
    split at h
    · rename_i hy
      cases h
      rw [hy] at HU
      clear hy hk hl
      go_enter Tryz.func92, Tryz.ntmps92
      go_wp2_with (first | (go_at_call 64; (with_reducible refine (must_yes _ _).mono ?_); rintro e w9 ⟨rfl, rfl⟩) | (go_at_call 17; refine (HU.out _).mono ?_; rintro e w1 ⟨rfl, hb1⟩) | (go_at_call 64; (with_reducible refine (must_no _ _).mono ?_); rintro e w9 ⟨rfl, rfl⟩))
      exact ⟨rfl, rfl, (by repeat' (first | (with_reducible first | exact Below.refl _ _ | refine Below.drew ?_ | refine belowDrewN ?_ _ | refine belowIter ?_ ?_ _ _ | refine Below.setCell ?_ ?_ _ | refine Below.alloc ?_ ?_ _ | refine bT hb4 ?_ ?_ | refine bT hb3 ?_ ?_ | refine bT hb2 ?_ ?_ | refine bT hb1 ?_ ?_ | refine bT hbr ?_ ?_ | refine bT hb ?_ ?_) | (simp; done) | (simp; omega) | omega))⟩
    · cases h
  · cases h
    rename_i hk
    have hk1 : (t.kind == 3) = false := by simpa using hk
    clear hk hl
    go_enter Tryz.func92, Tryz.ntmps92
    go_wp2_with (go_at_call 64; (with_reducible refine (must_no _ _).mono ?_); rintro e w9 ⟨rfl, rfl⟩)
    exact ⟨rfl, rfl, (by repeat' (first | (with_reducible first | exact Below.refl _ _ | refine Below.drew ?_ | refine belowDrewN ?_ _ | refine belowIter ?_ ?_ _ _ | refine Below.setCell ?_ ?_ _ | refine Below.alloc ?_ ?_ _ | refine bT hb4 ?_ ?_ | refine bT hb3 ?_ ?_ | refine bT hb2 ?_ ?_ | refine bT hb1 ?_ ?_ | refine bT hbr ?_ ?_ | refine bT hb ?_ ?_) | (simp; done) | (simp; omega) | omega))⟩
end Go.Proofs.YtibffdaljmmdoaaGreatDoor
/- The reader of a character code mapping: codes, spans, telling. -/
namespace Go.Proofs.YtibffdaljmmdoaaGreatDoor
open Go.RowKit Fo Go.Maps

theorem i64_or8 {x y : Int} (hx₀ : 0 ≤ x) (hx : x % 256 = 0) (hx₁ : x < 2147483648) (h₀ : 0 ≤ y) (h₁ : y < 256) : bits .or .i64 x y = x + y :=
  bits_join .i64 31 (by decide) (fun n h0 h1 => IntWalk.i64_in n (by omega)) 8 x y hx₀ hx hx₁ h₀ h₁ (by omega)
set_option maxRecDepth 100000 in
set_option maxHeartbeats 1000000 in
theorem code_one (r : Nat) (s : ByteArray) (a p q z t0 mb : Nat) (N : Int) (c : UInt8) (w : World) (hr : QAt w r s a z t0 mb) (hz : ((z : Int) == 0) = true ∨ ((z : Int) == 0) = false ∧ ((z : Int) == 1) = true) :
    Calls Tryz.prog 91 #[.pointer (some ⟨r, 0, none⟩), .agg #[.int .i64 3, .int .i64 p, .int .i64 q, .int .i64 N, .string ⟨#[c]⟩]] w fun e w' => e = .returned (.int .i64 c.toNat) ∧ QAt w' r s a 1 t0 mb ∧ Bes2 r r w w' := by
  have hc := UInt8.toNat_lt c
  have q0 : ((⟨#[c]⟩ : ByteArray)[0]'(by show 0 < 1; omega)) = c := rfl
  have o1 : bits BinOp.or IntKind.i64 0 (c.toNat : Int) = c.toNat := by rw [i64_or8 (by omega) (by omega) (by omega) (by omega) (by omega)]; omega
  have o2 : IntKind.i64.wrap 0 = 0 := by decide
  have Hr := Lib.hid hr
  rcases hz with hz | ⟨hz, hz1⟩
  all_goals
    have hlt := hr.lt
    obtain ⟨_, _, c2, _, _⟩ := hr.cells
    have f2 := hr.frozen 2
    have ne1 : ¬ r = w.heap.size := by omega
    have ne2 : ¬ w.heap.size = r := by omega
    go_enter Tryz.func91, Tryz.ntmps91
    go_wp2_with (go_at_call 64; (with_reducible refine (must_yes _ _).mono ?_); rintro e w9 ⟨rfl, rfl⟩)
    refine wp_loop_rounds 2 ?_
    rw [rounds_succ]
    go_wp2
    rw [rounds_succ]
    go_wp2
    go_ret
    exact ⟨rfl, (Hr.out.set2 (b := 1)).below ((Below.refl _ _).alloc (Nat.le_refl _) _), (by repeat' (first | (with_reducible exact Bes2.refl _ _ _) | (with_reducible refine Bes2.drew ?_) | (with_reducible refine Bes2.drewN ?_ _) | (with_reducible refine Bes2.alloc ?_ _) | (with_reducible refine Bes2.setCell ?_ _ _) | (with_reducible refine Bes2.setCell_new ?_ ?_ _) | (with_reducible refine Bes2.belowB ?_ hb5 ?_) | (with_reducible refine Bes2.belowB ?_ hb4 ?_) | (with_reducible refine Bes2.belowB ?_ hb3 ?_) | (with_reducible refine Bes2.belowB ?_ hb2 ?_) | (with_reducible refine Bes2.belowB ?_ hb1 ?_) | (with_reducible refine Bes2.belowB ?_ hbr ?_) | (with_reducible refine Bes2.belowB ?_ hb ?_) | (with_reducible refine Bes2.trans ?_ hs5) | (with_reducible refine Bes2.trans ?_ hs4) | (with_reducible refine Bes2.trans ?_ hs3) | (with_reducible refine Bes2.trans ?_ hs2) | (with_reducible refine Bes2.trans ?_ hs1) | (show _ ≤ _; simp; done) | (show _ ≤ _; simp; omega) | omega))⟩
set_option maxRecDepth 100000 in
set_option maxHeartbeats 1000000 in
theorem code_two (r : Nat) (s : ByteArray) (a p q z t0 mb : Nat) (N : Int) (c d : UInt8) (w : World) (hr : QAt w r s a z t0 mb) (hz : ((z : Int) == 0) = true ∨ ((z : Int) == 0) = false ∧ ((z : Int) == 2) = true) :
    Calls Tryz.prog 91 #[.pointer (some ⟨r, 0, none⟩), .agg #[.int .i64 3, .int .i64 p, .int .i64 q, .int .i64 N, .string ⟨#[c, d]⟩]] w fun e w' => e = .returned (.int .i64 ((256 * c.toNat + d.toNat : Nat) : Int)) ∧ QAt w' r s a 2 t0 mb ∧ Bes2 r r w w' := by
  have hc := UInt8.toNat_lt c
  have hd := UInt8.toNat_lt d
  have q0 : ((⟨#[c, d]⟩ : ByteArray)[0]'(by show 0 < 2; omega)) = c := rfl
  have q1 : ((⟨#[c, d]⟩ : ByteArray)[1]'(by show 1 < 2; omega)) = d := rfl
  have o1 : bits BinOp.or IntKind.i64 0 (c.toNat : Int) = c.toNat := by rw [i64_or8 (by omega) (by omega) (by omega) (by omega) (by omega)]; omega
  have o2 : IntKind.i64.wrap 0 = 0 := by decide
  have o3 : IntKind.i64.wrap ((c.toNat : Int) * 256) = (c.toNat : Int) * 256 := IntWalk.i64_in _ (by omega)
  have o4 : bits BinOp.or IntKind.i64 ((c.toNat : Int) * 256) (d.toNat : Int) = (c.toNat : Int) * 256 + d.toNat := i64_or8 (by omega) (by omega) (by omega) (by omega) (by omega)
  have Hr := Lib.hid hr
  rcases hz with hz | ⟨hz, hz1⟩
  all_goals
    have hlt := hr.lt
    obtain ⟨_, _, c2, _, _⟩ := hr.cells
    have f2 := hr.frozen 2
    have ne1 : ¬ r = w.heap.size := by omega
    have ne2 : ¬ w.heap.size = r := by omega
    go_enter Tryz.func91, Tryz.ntmps91
    go_wp2_with (go_at_call 64; (with_reducible refine (must_yes _ _).mono ?_); rintro e w9 ⟨rfl, rfl⟩)
    refine wp_loop_rounds 3 ?_
    rw [rounds_succ]
    go_wp2
    rw [rounds_succ]
    go_wp2
    rw [rounds_succ]
    go_wp2
    go_ret
    exact ⟨ret_int (by omega), (Hr.out.set2 (b := 2)).below ((Below.refl _ _).alloc (Nat.le_refl _) _), (by repeat' (first | (with_reducible exact Bes2.refl _ _ _) | (with_reducible refine Bes2.drew ?_) | (with_reducible refine Bes2.drewN ?_ _) | (with_reducible refine Bes2.alloc ?_ _) | (with_reducible refine Bes2.setCell ?_ _ _) | (with_reducible refine Bes2.setCell_new ?_ ?_ _) | (with_reducible refine Bes2.belowB ?_ hb5 ?_) | (with_reducible refine Bes2.belowB ?_ hb4 ?_) | (with_reducible refine Bes2.belowB ?_ hb3 ?_) | (with_reducible refine Bes2.belowB ?_ hb2 ?_) | (with_reducible refine Bes2.belowB ?_ hb1 ?_) | (with_reducible refine Bes2.belowB ?_ hbr ?_) | (with_reducible refine Bes2.belowB ?_ hb ?_) | (with_reducible refine Bes2.trans ?_ hs5) | (with_reducible refine Bes2.trans ?_ hs4) | (with_reducible refine Bes2.trans ?_ hs3) | (with_reducible refine Bes2.trans ?_ hs2) | (with_reducible refine Bes2.trans ?_ hs1) | (show _ ≤ _; simp; done) | (show _ ≤ _; simp; omega) | omega))⟩
theorem str_len (x : L) (n : Nat) (hx : x.length = n) : ((⟨x.toArray⟩ : ByteArray).size : Int) = (n : Int) := by
  subst hx; rfl
set_option maxRecDepth 100000 in
set_option maxHeartbeats 1000000 in
theorem code_no (r : Nat) (s : ByteArray) (a p q z t0 mb : Nat) (K N : Int) (x : ByteArray) (w : World) (hr : QAt w r s a z t0 mb)
    (h : (K == 3) = false ∨ (K == 3) = true ∧ ((x.size : Int) == 1) = false ∧ ((x.size : Int) == 2) = false ∨
      (K == 3) = true ∧ ((x.size : Int) == 1) = true ∧ ((z : Int) == 0) = false ∧ ((z : Int) == (x.size : Int)) = false ∨ (K == 3) = true ∧ ((x.size : Int) == 1) = false ∧ ((x.size : Int) == 2) = true ∧ ((z : Int) == 0) = false ∧ ((z : Int) == (x.size : Int)) = false) :
    Calls Tryz.prog 91 #[.pointer (some ⟨r, 0, none⟩), .agg #[.int .i64 K, .int .i64 p, .int .i64 q, .int .i64 N, .string x]] w fun e w' => e = .panicked [{ v := .iface 77 (.int .i64 3), recovered := false }] ∧ Bes2 r r w w' := by
  rcases h with h1 | ⟨h1, h2, h3⟩ | ⟨h1, h2, h3, h4⟩ | ⟨h1, h2, h3, h4, h5⟩
  all_goals
    have hlt := hr.lt
    obtain ⟨_, _, c2, _, _⟩ := hr.cells
    have f2 := hr.frozen 2
    have ne1 : ¬ r = w.heap.size := by omega
    have ne2 : ¬ w.heap.size = r := by omega
    go_enter Tryz.func91, Tryz.ntmps91
    go_wp2_with (go_at_call 64; (with_reducible refine (must_no _ _).mono ?_); rintro e w9 ⟨rfl, rfl⟩)
    exact ⟨rfl, rfl, (by repeat' (first | (with_reducible exact Bes2.refl _ _ _) | (with_reducible refine Bes2.drew ?_) | (with_reducible refine Bes2.drewN ?_ _) | (with_reducible refine Bes2.alloc ?_ _) | (with_reducible refine Bes2.setCell ?_ _ _) | (with_reducible refine Bes2.setCell_new ?_ ?_ _) | (with_reducible refine Bes2.belowB ?_ hb5 ?_) | (with_reducible refine Bes2.belowB ?_ hb4 ?_) | (with_reducible refine Bes2.belowB ?_ hb3 ?_) | (with_reducible refine Bes2.belowB ?_ hb2 ?_) | (with_reducible refine Bes2.belowB ?_ hb1 ?_) | (with_reducible refine Bes2.belowB ?_ hbr ?_) | (with_reducible refine Bes2.belowB ?_ hb ?_) | (with_reducible refine Bes2.trans ?_ hs5) | (with_reducible refine Bes2.trans ?_ hs4) | (with_reducible refine Bes2.trans ?_ hs3) | (with_reducible refine Bes2.trans ?_ hs2) | (with_reducible refine Bes2.trans ?_ hs1) | (show _ ≤ _; simp; done) | (show _ ≤ _; simp; omega) | omega))⟩
/-- What reading a code turns. -/
def CodeP (r : Nat) (s : ByteArray) (a t0 mb : Nat) (w : World) (R : Res (CS × Int)) (e : Ending) (w' : World) : Prop :=
  match R with
  | .good (σ', c) => e = .returned (.int .i64 c) ∧ QAt w' r s a σ'.size t0 mb ∧ Bes2 r r w w'
  | .bad k => e = .panicked [{ v := .iface 77 (.int .i64 k), recovered := false }] ∧ Bes2 r r w w'
theorem code_in (r : Nat) (s : ByteArray) (a p q t0 mb : Nat) (σ : CS) (t : Tok) (w : World) (hr : QAt w r s a σ.size t0 mb) :
    Calls Tryz.prog 91 #[.pointer (some ⟨r, 0, none⟩), .agg #[.int .i64 t.kind, .int .i64 p, .int .i64 q, .int .i64 t.n, .string ⟨t.s.toArray⟩]] w (CodeP r s a t0 mb w (codeC σ t)) := by
  obtain ⟨k, len, n, x⟩ := t
  obtain ⟨z, td, mm⟩ := σ
  dsimp only at hr ⊢
  by_cases hk : k = 3 ∧ (x.length = 1 ∨ x.length = 2) ∧ (z = 0 ∨ z = x.length)
  · have e : codeC ⟨z, td, mm⟩ ⟨k, len, n, x⟩ = .good (⟨x.length, td, mm⟩, (beV x : Nat)) := by unfold codeC; rw [if_pos hk]
    rw [e]
    obtain ⟨h1, h2, h3⟩ := hk
    subst h1
    rcases h2 with h2 | h2
    · obtain ⟨c, rfl⟩ : ∃ c, x = [c] := List.length_eq_one_iff.1 h2
      have e : beV [c] = c.toNat := by simp [beV]
      rw [e]
      have hz : ((z : Int) == 0) = true ∨ ((z : Int) == 0) = false ∧ ((z : Int) == 1) = true := by
        simp only [beq_eq_false_iff_ne, beq_iff_eq, ne_eq]; rw [h2] at h3; omega
      exact (code_one r s a p q z t0 mb n c w hr hz).mono fun _ _ h => h
    · obtain ⟨c, d, rfl⟩ : ∃ c d, x = [c, d] := by
        match x, h2 with
        | [c, d], _ => exact ⟨c, d, rfl⟩
      have e : beV [c, d] = 256 * c.toNat + d.toNat := by simp [beV]
      rw [e]
      have hz : ((z : Int) == 0) = true ∨ ((z : Int) == 0) = false ∧ ((z : Int) == 2) = true := by
        simp only [beq_eq_false_iff_ne, beq_iff_eq, ne_eq]; rw [h2] at h3; omega
      exact (code_two r s a p q z t0 mb n c d w hr hz).mono fun _ _ h => h
  · have e : codeC ⟨z, td, mm⟩ ⟨k, len, n, x⟩ = .bad 3 := by unfold codeC; rw [if_neg hk]
    rw [e]
    have hl : ((⟨x.toArray⟩ : ByteArray).size : Int) = (x.length : Int) := str_len x _ rfl
    refine (code_no r s a p q z t0 mb k n ⟨x.toArray⟩ w hr ?_).mono fun _ _ h => h
    rw [hl]
    simp only [beq_eq_false_iff_ne, beq_iff_eq, ne_eq]
    omega
end Go.Proofs.YtibffdaljmmdoaaGreatDoor
/- Maps from codes to texts, as the reader of a mapping gathers them. -/
namespace Go.Proofs.YtibffdaljmmdoaaGreatDoor
open Go.RowKit Fo Go.Maps

/-- The datum holds just these entries. -/
structure MapC (D : DataW Unit) (m : CM) : Prop where
  tidy : Tidy D
  has : ∀ c, Maps.has D (.int .i64 c) = m.any (fun p => p.1 == c)
  size : Maps.size D = m.length
  at' : ∀ p ∈ m, ∀ z, D.atKey (.int .i64 p.1) z = .lit (.string p.2)
  sorted : m.Pairwise fun p q => p.1 < q.1
theorem MapC.nil : MapC (.map []) [] := ⟨tidy_empty, fun c => rfl, rfl, fun p hp => by simp at hp, List.Pairwise.nil⟩
theorem insC_new : ∀ (m : CM) (c : Int) (x : L), m.any (fun p => p.1 == c) = false → (insC m c x).Perm ((c, x) :: m)
  | [], _, _, _ => List.Perm.refl _
  | (d, t) :: m, c, x, h => by
    simp only [List.any_cons, Bool.or_eq_false_iff, beq_eq_false_iff_ne, ne_eq] at h
    rw [insC]
    split
    · exact List.Perm.refl _
    · rw [if_neg (fun e => h.1 e.symm)]
      exact ((insC_new m c x h.2).cons _).trans (List.Perm.swap _ _ _)
theorem insC_sorted : ∀ (m : CM) (c : Int) (x : L), (m.Pairwise fun p q => p.1 < q.1) → (insC m c x).Pairwise fun p q => p.1 < q.1
  | [], _, _, _ => List.pairwise_singleton _ _
  | (d, t) :: m, c, x, h => by
    obtain ⟨h1, h2⟩ := List.pairwise_cons.1 h
    rw [insC]
    split
    · refine List.pairwise_cons.2 ⟨fun q hq => ?_, h⟩
      rcases List.mem_cons.1 hq with rfl | hq
      · assumption
      · have := h1 q hq; dsimp only at this ⊢; omega
    · split
      · exact h
      · refine List.pairwise_cons.2 ⟨fun q hq => ?_, insC_sorted m c x h2⟩
        by_cases hm : m.any (fun p => p.1 == c) = false
        · rcases List.mem_cons.1 ((insC_new m c x hm).mem_iff.1 hq) with rfl | hq
          · dsimp only; omega
          · exact h1 q hq
        · have : insC m c x = m := insC_old m c x h2 (by simpa using hm)
          rw [this] at hq; exact h1 q hq
where
  insC_old : ∀ (m : CM) (c : Int) (x : L), (m.Pairwise fun p q => p.1 < q.1) → m.any (fun p => p.1 == c) = true → insC m c x = m
  | [], _, _, _, h => by simp at h
  | (d, t) :: m, c, x, hp, h => by
    obtain ⟨h1, h2⟩ := List.pairwise_cons.1 hp
    simp only [List.any_cons, Bool.or_eq_true, beq_iff_eq] at h
    rw [insC]
    by_cases e : d = c
    · rw [if_neg (by omega), if_pos e.symm]
    · have h' : m.any (fun p => p.1 == c) = true := by rcases h with h | h; exact absurd h e; exact h
      obtain ⟨q, hq, hqc⟩ := List.any_eq_true.1 h'
      have := h1 q hq
      have hqc' : q.1 = c := by simpa using hqc
      dsimp only at this
      rw [if_neg (by omega), if_neg (by omega), insC_old m c x h2 h']
theorem isKey_int (c : Int) : WideAt.IsKeyLit (.int .i64 c) := trivial
theorem MapC.push {D : DataW Unit} {m : CM} (h : MapC D m) (c : Int) (x : L) (hx : m.any (fun p => p.1 == c) = false) : MapC (D.put (.int .i64 c) (.lit (.string x))) (insC m c x) := by
  have hp := insC_new m c x hx
  have hne : ∀ p ∈ m, p.1 ≠ c := fun p hp he => by
    have : m.any (fun p => p.1 == c) = true := List.any_eq_true.2 ⟨p, hp, by simpa using he⟩
    rw [hx] at this; cases this
  refine ⟨h.tidy.put (isKey_int c) _, fun y => ?_, ?_, fun p hpm z => ?_, insC_sorted m c x h.sorted⟩
  · rw [hp.any_eq, List.any_cons]
    by_cases hy : y = c
    · subst hy
      rw [has_put_same h.tidy.isMap (isKey_int y)]; simp
    · rw [has_put_other (by simpa using hy), h.has y]
      have : ¬ c = y := fun h => hy h.symm
      simp [this]
  · rw [size_put h.tidy, h.has, hx, hp.length_eq]; simp [h.size]
  · rcases List.mem_cons.1 (hp.mem_iff.1 hpm) with rfl | hpm
    · exact atKey_put_same h.tidy.isMap (isKey_int _) _ _
    · rw [atKey_put_other (by simpa using hne p hpm)]; exact h.at' p hpm z
theorem MapC.old {m : CM} {D : DataW Unit} (h : MapC D m) (c : Int) (x : L) (hx : m.any (fun p => p.1 == c) = true) : insC m c x = m := insC_sorted.insC_old m c x h.sorted hx
/-- Block mb is a map of at most n entries that holds m. -/
def MpAt (w : World) (mb n : Nat) (m : CM) : Prop := ∃ D : DataW Unit, w.ownsMap Tryz.prog 3 (plainElem Tryz.prog 9) mb n D ∧ MapC D m
theorem MpAt.lt {w : World} {mb n : Nat} {m : CM} (h : MpAt w mb n m) : mb < w.heap.size := by
  obtain ⟨D, ⟨es, clock, hb, _⟩, _⟩ := h
  exact (Array.getElem?_eq_some_iff.1 hb).1
theorem MpAt.kept {w w' : World} {mb n : Nat} {m : CM} (h : MpAt w mb n m) (hk : w'.heap[mb]? = w.heap[mb]?) : MpAt w' mb n m := by
  obtain ⟨D, ⟨es, clock, hb, F⟩, h2⟩ := h
  exact ⟨D, ⟨es, clock, hk.trans hb, F⟩, h2⟩
theorem MpAt.more {w : World} {mb n k : Nat} {m : CM} (h : MpAt w mb n m) (hk : n ≤ k) : MpAt w mb k m := by
  obtain ⟨D, ⟨es, clock, hb, F, hs, e⟩, h2⟩ := h
  exact ⟨D, ⟨es, clock, hb, F, Nat.le_trans hs hk, e⟩, h2⟩
theorem MpAt.ne {w : World} {mb n r : Nat} {m : CM} {s : ByteArray} {a z t b : Nat} (h : MpAt w mb n m) (hr : QAt w r s a z t b) : r ≠ mb := by
  obtain ⟨D, ⟨es, clock, hb, _⟩, _⟩ := h
  rintro rfl
  unfold QAt at hr; rw [hb] at hr; cases hr
theorem MaxW.neQ {w : World} {m : Int} {r : Nat} {s : ByteArray} {a z t b : Nat} (h : MaxW w m) (hr : QAt w r s a z t b) : r ≠ 2 := by
  rintro rfl
  have := hr.cells.1
  unfold MaxW at h; rw [h] at this; cases this
theorem MaxW.neM {w : World} {m : Int} {mb n : Nat} {l : CM} (h : MaxW w m) (hm : MpAt w mb n l) : mb ≠ 2 := by
  obtain ⟨D, ⟨es, clock, hb, _⟩, _⟩ := hm
  rintro rfl
  unfold MaxW at h; simp [World.cell?, hb] at h
theorem MaxW.bes2 {w w' : World} {m : Int} {r mb : Nat} (h : MaxW w m) (hb : Bes2 r mb w w') (h1 : r ≠ 2) (h2 : mb ≠ 2) : MaxW w' m := by
  have := hb.block 2 (MaxW.lt h) (Ne.symm h1) (Ne.symm h2)
  unfold MaxW at *
  rw [World.cell?_of_block this]; exact h
theorem wf_i64 (c : Int) (h0 : 0 ≤ c) (h1 : c ≤ 1000000) : (Lit.int .i64 c).wf = true := by
  simp [Lit.wf, IntKind.min, IntKind.max, IntKind.bits, IntKind.signed]; omega
end Go.Proofs.YtibffdaljmmdoaaGreatDoor
/- The reader of a character code mapping: telling a code's text. -/
namespace Go.Proofs.YtibffdaljmmdoaaGreatDoor
open Go.RowKit Fo Go.Maps

/-- What telling turns. -/
def TellP (r : Nat) (s : ByteArray) (a mb : Nat) (w : World) (R : Res CS) (e : Ending) (w' : World) : Prop :=
  match R with
  | .good σ => e = .returned (.tuple #[]) ∧ QAt w' r s a σ.size σ.told mb ∧ MpAt w' mb σ.told σ.m ∧ Bes2 r mb w w'
  | .bad k => e = .panicked [{ v := .iface 77 (.int .i64 k), recovered := false }] ∧ Bes2 r mb w w'
theorem zeroStr (w : World) : (zeroValue 9).run Tryz.prog w = .ok (.string ⟨#[]⟩) w := by kernel_rfl
set_option maxRecDepth 100000 in
set_option maxHeartbeats 1000000 in
theorem tell_in (r : Nat) (s : ByteArray) (a mb : Nat) (σ : CS) (c : Int) (x : L) (h0 : 0 ≤ c) (h1 : c ≤ 1000000) (hx : x.length ≤ 1000000000000) (w : World) (hr : QAt w r s a σ.size σ.told mb) (hm : MpAt w mb σ.told σ.m) (ht : σ.told ≤ 4096) :
    Calls Tryz.prog 90 #[.pointer (some ⟨r, 0, none⟩), .int .i64 c, .string ⟨x.toArray⟩] w (TellP r s a mb w (tellC σ c x)) := by
  have hne := hm.ne hr
  obtain ⟨z, td, m⟩ := σ
  dsimp only at hr hm ht
  unfold tellC
  dsimp only
  by_cases hbig : 4096 ≤ td
  · rw [if_pos hbig]
    have d1 : decide ((td : Int) + 1 ≤ 4096) = false := by simp; omega
    clear hm hbig
    have hlt := hr.lt
    obtain ⟨_, _, _, c3, c4⟩ := hr.cells
    have f3 := hr.frozen 3
    go_enter Tryz.func90, Tryz.ntmps90
    go_wp2_with (go_at_call 64; (with_reducible refine (must_no _ _).mono ?_); rintro e w9 ⟨rfl, rfl⟩)
    exact ⟨rfl, rfl, (by repeat' (first | (with_reducible exact Bes2.refl _ _ _) | (with_reducible refine Bes2.drew ?_) | (with_reducible refine Bes2.drewN ?_ _) | (with_reducible refine Bes2.alloc ?_ _) | (with_reducible refine Bes2.setCell ?_ _ _) | (with_reducible refine Bes2.setCell_new ?_ ?_ _) | (with_reducible refine Bes2.belowB ?_ hb5 ?_) | (with_reducible refine Bes2.belowB ?_ hb4 ?_) | (with_reducible refine Bes2.belowB ?_ hb3 ?_) | (with_reducible refine Bes2.belowB ?_ hb2 ?_) | (with_reducible refine Bes2.belowB ?_ hb1 ?_) | (with_reducible refine Bes2.belowB ?_ hbr ?_) | (with_reducible refine Bes2.belowB ?_ hb ?_) | (with_reducible refine Bes2.trans ?_ hs5) | (with_reducible refine Bes2.trans ?_ hs4) | (with_reducible refine Bes2.trans ?_ hs3) | (with_reducible refine Bes2.trans ?_ hs2) | (with_reducible refine Bes2.trans ?_ hs1) | (show _ ≤ _; simp; done) | (show _ ≤ _; simp; omega) | omega))⟩
  · rw [if_neg hbig]
    have d1 : decide ((td : Int) + 1 ≤ 4096) = true := by simp; omega
    obtain ⟨D, hown, hD⟩ := hm
    obtain ⟨w1, hw1⟩ : ∃ w1, w.setCell ⟨r, 3, none⟩ (.int .i64 ((td : Int) + 1)) = w1 := ⟨_, rfl⟩
    have hkey := keyOf_int_mk Tryz.underlying3 (wf_i64 c h0 h1)
    have hb1 : w1.heap[mb]? = w.heap[mb]? := by rw [← hw1]; exact Below.heap_setCell _ _ _ _ (by simpa using Ne.symm hne)
    have hown1 : w1.ownsMap Tryz.prog 3 (plainElem Tryz.prog 9) mb td D := by
      obtain ⟨es, clock, hb, F⟩ := hown
      exact ⟨es, clock, hb1.trans hb, F⟩
    obtain ⟨v0, ps0, hrun0, hv0⟩ := hown1.look_ok (int_keyed Tryz.underlying3) Tryz.underlying46 (zeroStr w1) (plainElem_string Tryz.underlying9 (by unfold maxLen; decide)) hkey
    obtain ⟨v1, rfl, _, _⟩ := plainElem_string_inv Tryz.underlying9 hv0
    have hQ1 : QAt w1 r s a z (td + 1) mb := by rw [← hw1]; exact hr.set3 (b := td + 1)
    obtain ⟨_, _, _, k3, k4⟩ := hQ1.cells
    have k3' : w1.cell? ⟨r, 3, none⟩ = some (.int .i64 ((td : Int) + 1)) := k3
    have hs1 : Bes2 r mb w w1 := by rw [← hw1]; exact (by repeat' (first | (with_reducible exact Bes2.refl _ _ _) | (with_reducible refine Bes2.drew ?_) | (with_reducible refine Bes2.drewN ?_ _) | (with_reducible refine Bes2.alloc ?_ _) | (with_reducible refine Bes2.setCell ?_ _ _) | (with_reducible refine Bes2.setCell_new ?_ ?_ _) | (with_reducible refine Bes2.belowB ?_ hb5 ?_) | (with_reducible refine Bes2.belowB ?_ hb4 ?_) | (with_reducible refine Bes2.belowB ?_ hb3 ?_) | (with_reducible refine Bes2.belowB ?_ hb2 ?_) | (with_reducible refine Bes2.belowB ?_ hb1 ?_) | (with_reducible refine Bes2.belowB ?_ hbr ?_) | (with_reducible refine Bes2.belowB ?_ hb ?_) | (with_reducible refine Bes2.trans ?_ hs5) | (with_reducible refine Bes2.trans ?_ hs4) | (with_reducible refine Bes2.trans ?_ hs3) | (with_reducible refine Bes2.trans ?_ hs2) | (with_reducible refine Bes2.trans ?_ hs1) | (show _ ≤ _; simp; done) | (show _ ≤ _; simp; omega) | omega))
    rw [hD.has] at hrun0
    cases hh : m.any (fun p => p.1 == c)
    · rw [hh] at hrun0
      have HP := Lib.hid (hD.push c x hh)
      have hval : plainElem (H := Unit) Tryz.prog 9 (.string ⟨x.toArray⟩) = some (.lit (.string x), []) := plainElem_string Tryz.underlying9 (s := ⟨x.toArray⟩) (by show x.length ≤ maxLen; unfold maxLen; omega)
      have HV := Lib.hid hval
      have htl : td < maxLen := by unfold maxLen; omega
      have HK := Lib.hid hkey
      have HO := Lib.hid hown1
      have HQ := Lib.hid hQ1
      have hne' := Lib.hid hne
      clear hown hown1 hv0 hval hD hkey hh hb1 k3 hQ1 hne
      have hlt := hr.lt
      obtain ⟨_, _, _, c3, c4⟩ := hr.cells
      have f3 := hr.frozen 3
      go_enter Tryz.func90, Tryz.ntmps90
      go_wp2_with (first | (go_at_call 64; (with_reducible refine (must_yes _ _).mono ?_); rintro e w9 ⟨rfl, rfl⟩) | (at_mapUpdate; refine wpList_mapUpdate_own _ rfl _ _ _ 46 rfl 3 9 (int_keyed Tryz.underlying3) Tryz.underlying46 _ mb td _ rfl HO.out htl _ _ _ rfl rfl HK.out _ [] HV.out ?_; intro w5 hown5 hgrow5))
      go_end0
      exact ⟨rfl, HQ.out.kept (hgrow5.block r HQ.out.lt (fun e => hne'.out (by cases e; rfl))), ⟨_, hown5, HP.out⟩, hs1.grown hgrow5⟩
    · rw [hh] at hrun0
      have HE := Lib.hid (hD.old c x hh)
      have HQ := Lib.hid hQ1
      have HM : Hid (MpAt w1 mb (td + 1) m) := Lib.hid (MpAt.more (n := td) ⟨D, hown1, hD⟩ (by omega))
      clear hown hown1 hv0 hD hkey hh hb1 k3 hQ1 hne
      have hlt := hr.lt
      obtain ⟨_, _, _, c3, c4⟩ := hr.cells
      have f3 := hr.frozen 3
      go_enter Tryz.func90, Tryz.ntmps90
      go_wp2_with (go_at_call 64; (with_reducible refine (must_yes _ _).mono ?_); rintro e w9 ⟨rfl, rfl⟩)
      go_end0
      exact ⟨rfl, HQ.out, by rw [HE.out]; exact HM.out, hs1⟩
end Go.Proofs.YtibffdaljmmdoaaGreatDoor
/- The reader of a character code mapping: spans of codes, lists of texts. -/
namespace Go.Proofs.YtibffdaljmmdoaaGreatDoor
open Go.RowKit Fo Go.Maps

/-- The reader at place a, in the state σ. -/
structure SQ (w : World) (r : Nat) (s : ByteArray) (a mb : Nat) (σ : CS) : Prop where
  q : QAt w r s a σ.size σ.told mb
  m : MpAt w mb σ.told σ.m
theorem SQ.below {w w' : World} {r : Nat} {s : ByteArray} {a mb : Nat} {σ : CS} (h : SQ w r s a mb σ) (hb : Below w.heap.size w w') : SQ w' r s a mb σ := ⟨h.q.below hb, h.m.kept (hb.block mb h.m.lt)⟩
theorem SQ.belowB {B : Nat} {w w' : World} {r : Nat} {s : ByteArray} {a mb : Nat} {σ : CS} (h : SQ w r s a mb σ) (hb : Below B w w') (h1 : r < B) (h2 : mb < B) : SQ w' r s a mb σ := ⟨h.q.belowB hb h1, h.m.kept (hb.block mb h2)⟩
theorem MpAt.bes {w w' : World} {mb n r : Nat} {m : CM} (h : MpAt w mb n m) (hb : Bes2 r r w w') (hne : r ≠ mb) : MpAt w' mb n m := h.kept (hb.block mb h.lt (Ne.symm hne) (Ne.symm hne))
theorem nextS_pos {s : ByteArray} {a : Nat} {t : Tok} {l : L} (h : nextS (s.data.toList.drop a) = .good (t, l)) (ha : a ≤ s.size) :
    ∃ p q, (nextT (s.data.toList.drop a)).2 = .good t ∧ t.kind ≠ 0 ∧ a + (nextT (s.data.toList.drop a)).1 = p ∧ p + t.len = q ∧ q ≤ s.size ∧ l = s.data.toList.drop q := by
  obtain ⟨h1, hk, hrest⟩ := nextS_good h
  obtain ⟨g1, g2, g3, _⟩ := nextT_good h1
  have h2 : s.data.toList.length = s.size := by simp
  rw [List.length_drop, h2] at g1
  rw [List.drop_drop, ← Nat.add_assoc] at hrest
  exact ⟨_, _, h1, hk, rfl, rfl, by omega, hrest⟩
theorem codeC_keep {σ σ' : CS} {t : Tok} {c : Int} (h : codeC σ t = .good (σ', c)) : σ'.told = σ.told ∧ σ'.m = σ.m ∧ 0 ≤ c ∧ c ≤ 65535 := by
  unfold codeC at h
  split at h
  · rename_i hk
    obtain ⟨_, h2, _⟩ := hk
    cases h
    refine ⟨rfl, rfl, by omega, ?_⟩
    rcases h2 with h2 | h2
    · obtain ⟨c, hc⟩ : ∃ c, t.s = [c] := List.length_eq_one_iff.1 h2
      have := UInt8.toNat_lt c
      rw [hc]; simp [beV]; omega
    · obtain ⟨c, d, hc⟩ : ∃ c d, t.s = [c, d] := by
        match t.s, h2 with
        | [c, d], _ => exact ⟨c, d, rfl⟩
      have := UInt8.toNat_lt c
      have := UInt8.toNat_lt d
      rw [hc]; simp [beV]; omega
  · cases h
/-- A code read in place: the whole state. -/
theorem codeS_in (r : Nat) (s : ByteArray) (a p q mb : Nat) (σ : CS) (t : Tok) (w : World) (hS : SQ w r s a mb σ) :
    Calls Tryz.prog 91 #[.pointer (some ⟨r, 0, none⟩), .agg #[.int .i64 t.kind, .int .i64 p, .int .i64 q, .int .i64 t.n, .string ⟨t.s.toArray⟩]] w fun e w' =>
      (∃ σ' c, codeC σ t = .good (σ', c) ∧ e = .returned (.int .i64 c) ∧ SQ w' r s a mb σ' ∧ Bes2 r r w w') ∨ (∃ k, codeC σ t = .bad k ∧ e = .panicked [{ v := .iface 77 (.int .i64 k), recovered := false }] ∧ Bes2 r r w w') := by
  refine (code_in r s a p q σ.told mb σ t w hS.q).mono ?_
  intro e w' h
  cases hR : codeC σ t with
  | good x =>
    obtain ⟨σ', c⟩ := x
    rw [hR] at h
    obtain ⟨h1, h2, h3⟩ := h
    obtain ⟨k1, k2, _⟩ := codeC_keep hR
    exact .inl ⟨σ', c, rfl, h1, ⟨by rw [k1]; exact h2, by rw [k1, k2]; exact hS.m.bes h3 (hS.m.ne hS.q)⟩, h3⟩
  | bad k =>
    rw [hR] at h
    exact .inr ⟨k, rfl, h⟩
/-- What a span turns. -/
def SpanP (r : Nat) (s : ByteArray) (mb : Nat) (w : World) (R : Res (CS × Int × Int × L)) (e : Ending) (w' : World) : Prop :=
  match R with
  | .good (σ, x, y, l) => e = .returned (.tuple #[.int .i64 x, .int .i64 y]) ∧ ∃ a, a ≤ s.size ∧ l = s.data.toList.drop a ∧ SQ w' r s a mb σ ∧ Bes2 r mb w w'
  | .bad k => e = .panicked [{ v := .iface 77 (.int .i64 k), recovered := false }] ∧ Bes2 r mb w w'
set_option maxRecDepth 100000 in
set_option maxHeartbeats 1000000 in
theorem span_in (r : Nat) (s : ByteArray) (a p q mb : Nat) (σ : CS) (t : Tok) (ha : a ≤ s.size) (hs : s.size ≤ 1000000000) (m : Int) (w : World) (hm : MaxW w m) (hS : SQ w r s a mb σ) :
    Calls Tryz.prog 89 #[.pointer (some ⟨r, 0, none⟩), .agg #[.int .i64 t.kind, .int .i64 p, .int .i64 q, .int .i64 t.n, .string ⟨t.s.toArray⟩]] w (SpanP r s mb w (spanC σ t (s.data.toList.drop a))) := by
  obtain ⟨R, hR⟩ : ∃ R, spanC σ t (s.data.toList.drop a) = R := ⟨_, rfl⟩
  rw [hR]
  unfold spanC at hR
  have hlt := hS.q.lt
  have hltm := hS.m.lt
  have hnr := hm.neQ hS.q
  have hnm := hm.neM hS.m
  cases h1 : codeC σ t with
  | bad k =>
    rw [h1] at hR
    subst hR
    go_enter Tryz.func89, Tryz.ntmps89
    go_wp2_with fail
    refine (codeS_in r s a p q mb σ t _ (hS.below (by repeat' (first | (with_reducible first | exact Below.refl _ _ | refine Below.drew ?_ | refine belowDrewN ?_ _ | refine belowIter ?_ ?_ _ _ | refine Below.setCell ?_ ?_ _ | refine Below.alloc ?_ ?_ _ | refine bT hb4 ?_ ?_ | refine bT hb3 ?_ ?_ | refine bT hb2 ?_ ?_ | refine bT hb1 ?_ ?_ | refine bT hbr ?_ ?_ | refine bT hb ?_ ?_) | (simp; done) | (simp; omega) | omega)))).mono ?_
    rintro e w1 (⟨σ', c, h, _⟩ | ⟨k', h, rfl, hs1⟩)
    · rw [h1] at h; cases h
    rw [h1] at h; cases h
    go_wp2
    exact ⟨rfl, rfl, (Bes2.of_below (show Below w.heap.size w (w.alloc _) from (by repeat' (first | (with_reducible first | exact Below.refl _ _ | refine Below.drew ?_ | refine belowDrewN ?_ _ | refine belowIter ?_ ?_ _ _ | refine Below.setCell ?_ ?_ _ | refine Below.alloc ?_ ?_ _ | refine bT hb4 ?_ ?_ | refine bT hb3 ?_ ?_ | refine bT hb2 ?_ ?_ | refine bT hb1 ?_ ?_ | refine bT hbr ?_ ?_ | refine bT hb ?_ ?_) | (simp; done) | (simp; omega) | omega)))).trans (hs1.any mb)⟩
  | good y =>
    obtain ⟨σ1, x⟩ := y
    rw [h1] at hR
    dsimp only at hR
    cases h2 : nextS (s.data.toList.drop a) with
    | bad k =>
      rw [h2] at hR
      subst hR
      go_enter Tryz.func89, Tryz.ntmps89
      go_wp2_with fail
      refine (codeS_in r s a p q mb σ t _ (hS.below (by repeat' (first | (with_reducible first | exact Below.refl _ _ | refine Below.drew ?_ | refine belowDrewN ?_ _ | refine belowIter ?_ ?_ _ _ | refine Below.setCell ?_ ?_ _ | refine Below.alloc ?_ ?_ _ | refine bT hb4 ?_ ?_ | refine bT hb3 ?_ ?_ | refine bT hb2 ?_ ?_ | refine bT hb1 ?_ ?_ | refine bT hbr ?_ ?_ | refine bT hb ?_ ?_) | (simp; done) | (simp; omega) | omega)))).mono ?_
      rintro e w1 (⟨σ', c, h, rfl, hS1, hs1⟩ | ⟨k', h, rfl, hs1⟩)
      rotate_left
      · rw [h1] at h; cases h
      rw [h1] at h; cases h
      have hm1 : MaxW w1 m := (hm.below (w' := w.alloc (.cells #[.int .i64 t.kind, .int .i64 p, .int .i64 q, .int .i64 t.n, .string ⟨t.s.toArray⟩] 59)) (by repeat' (first | (with_reducible first | exact Below.refl _ _ | refine Below.drew ?_ | refine belowDrewN ?_ _ | refine belowIter ?_ ?_ _ _ | refine Below.setCell ?_ ?_ _ | refine Below.alloc ?_ ?_ _ | refine bT hb4 ?_ ?_ | refine bT hb3 ?_ ?_ | refine bT hb2 ?_ ?_ | refine bT hb1 ?_ ?_ | refine bT hbr ?_ ?_ | refine bT hb ?_ ?_) | (simp; done) | (simp; omega) | omega))).bes2 hs1 hnr hnr
      have hz1 := hs1.size
      simp at hz1
      go_wp2_with fail
      refine (within_bad r s a _ _ mb k ha hs m _ hm1 hS1.q (by omega) h2).mono ?_
      rintro e w2 ⟨rfl, hs2⟩
      go_wp2
      exact ⟨rfl, rfl, ((Bes2.of_below (show Below w.heap.size w (w.alloc _) from (by repeat' (first | (with_reducible first | exact Below.refl _ _ | refine Below.drew ?_ | refine belowDrewN ?_ _ | refine belowIter ?_ ?_ _ _ | refine Below.setCell ?_ ?_ _ | refine Below.alloc ?_ ?_ _ | refine bT hb4 ?_ ?_ | refine bT hb3 ?_ ?_ | refine bT hb2 ?_ ?_ | refine bT hb1 ?_ ?_ | refine bT hbr ?_ ?_ | refine bT hb ?_ ?_) | (simp; done) | (simp; omega) | omega)))).trans (hs1.any mb)).trans (hs2.any mb)⟩
    | good y =>
      obtain ⟨t2, l2⟩ := y
      rw [h2] at hR
      dsimp only at hR
      obtain ⟨p2, q2, n1, n2, n3, n4, n5, rfl⟩ := nextS_pos h2 ha
      have HW := Lib.hid (fun W hm hr hmb => within_good r s a p2 q2 σ1.size σ1.told mb t2 ha hs m W hm hr hmb n1 n2 n3 n4)
      have H1 := Lib.hid h1
      cases h3 : codeC σ1 t2 with
      | bad k =>
        rw [h3] at hR
        subst hR
        have H3 := Lib.hid h3
        clear n1 n2 n3 n4 h1 h2 h3
        go_enter Tryz.func89, Tryz.ntmps89
        go_wp2_with fail
        refine (codeS_in r s a p q mb σ t _ (hS.below (by repeat' (first | (with_reducible first | exact Below.refl _ _ | refine Below.drew ?_ | refine belowDrewN ?_ _ | refine belowIter ?_ ?_ _ _ | refine Below.setCell ?_ ?_ _ | refine Below.alloc ?_ ?_ _ | refine bT hb4 ?_ ?_ | refine bT hb3 ?_ ?_ | refine bT hb2 ?_ ?_ | refine bT hb1 ?_ ?_ | refine bT hbr ?_ ?_ | refine bT hb ?_ ?_) | (simp; done) | (simp; omega) | omega)))).mono ?_
        rintro e w1 (⟨σ', c, h, rfl, hS1, hs1⟩ | ⟨k', h, rfl, hs1⟩)
        rotate_left
        · rw [H1.out] at h; cases h
        rw [H1.out] at h; cases h
        have hm1 : MaxW w1 m := (hm.below (w' := w.alloc (.cells #[.int .i64 t.kind, .int .i64 p, .int .i64 q, .int .i64 t.n, .string ⟨t.s.toArray⟩] 59)) (by repeat' (first | (with_reducible first | exact Below.refl _ _ | refine Below.drew ?_ | refine belowDrewN ?_ _ | refine belowIter ?_ ?_ _ _ | refine Below.setCell ?_ ?_ _ | refine Below.alloc ?_ ?_ _ | refine bT hb4 ?_ ?_ | refine bT hb3 ?_ ?_ | refine bT hb2 ?_ ?_ | refine bT hb1 ?_ ?_ | refine bT hbr ?_ ?_ | refine bT hb ?_ ?_) | (simp; done) | (simp; omega) | omega))).bes2 hs1 hnr hnr
        have hz1 := hs1.size
        simp at hz1
        go_wp2_with fail
        refine (HW.out _ hm1 hS1.q (by omega)).mono ?_
        rintro e w2 ⟨rfl, hr2, hs2⟩
        have hS2 : SQ w2 r s q2 mb σ1 := ⟨hr2, hS1.m.bes hs2 (hS1.m.ne hS1.q)⟩
        unfold ctkV
        go_wp2_with fail
        refine (codeS_in r s q2 p2 q2 mb σ1 t2 _ hS2).mono ?_
        rintro e w3 (⟨σ', c, h, rfl, hS3, hs3⟩ | ⟨k', h, rfl, hs3⟩)
        · rw [H3.out] at h; cases h
        rw [H3.out] at h; cases h
        go_wp2
        exact ⟨rfl, rfl, (((Bes2.of_below (show Below w.heap.size w (w.alloc _) from (by repeat' (first | (with_reducible first | exact Below.refl _ _ | refine Below.drew ?_ | refine belowDrewN ?_ _ | refine belowIter ?_ ?_ _ _ | refine Below.setCell ?_ ?_ _ | refine Below.alloc ?_ ?_ _ | refine bT hb4 ?_ ?_ | refine bT hb3 ?_ ?_ | refine bT hb2 ?_ ?_ | refine bT hb1 ?_ ?_ | refine bT hbr ?_ ?_ | refine bT hb ?_ ?_) | (simp; done) | (simp; omega) | omega)))).trans (hs1.any mb)).trans (hs2.any mb)).trans (hs3.any mb)⟩
      | good y =>
        obtain ⟨σ2, y⟩ := y
        rw [h3] at hR
        dsimp only at hR
        have H3 := Lib.hid h3
        clear n1 n2 n3 n4 h1 h2 h3
        by_cases hle : x ≤ y
        · rw [if_pos hle] at hR
          subst hR
          have d1 : decide (x ≤ y) = true := by simpa using hle
          clear hle
          go_enter Tryz.func89, Tryz.ntmps89
          go_wp2_with fail
          refine (codeS_in r s a p q mb σ t _ (hS.below (by repeat' (first | (with_reducible first | exact Below.refl _ _ | refine Below.drew ?_ | refine belowDrewN ?_ _ | refine belowIter ?_ ?_ _ _ | refine Below.setCell ?_ ?_ _ | refine Below.alloc ?_ ?_ _ | refine bT hb4 ?_ ?_ | refine bT hb3 ?_ ?_ | refine bT hb2 ?_ ?_ | refine bT hb1 ?_ ?_ | refine bT hbr ?_ ?_ | refine bT hb ?_ ?_) | (simp; done) | (simp; omega) | omega)))).mono ?_
          rintro e w1 (⟨σ', c, h, rfl, hS1, hs1⟩ | ⟨k', h, rfl, hs1⟩)
          rotate_left
          · rw [H1.out] at h; cases h
          rw [H1.out] at h; cases h
          have hm1 : MaxW w1 m := (hm.below (w' := w.alloc (.cells #[.int .i64 t.kind, .int .i64 p, .int .i64 q, .int .i64 t.n, .string ⟨t.s.toArray⟩] 59)) (by repeat' (first | (with_reducible first | exact Below.refl _ _ | refine Below.drew ?_ | refine belowDrewN ?_ _ | refine belowIter ?_ ?_ _ _ | refine Below.setCell ?_ ?_ _ | refine Below.alloc ?_ ?_ _ | refine bT hb4 ?_ ?_ | refine bT hb3 ?_ ?_ | refine bT hb2 ?_ ?_ | refine bT hb1 ?_ ?_ | refine bT hbr ?_ ?_ | refine bT hb ?_ ?_) | (simp; done) | (simp; omega) | omega))).bes2 hs1 hnr hnr
          have hz1 := hs1.size
          simp at hz1
          go_wp2_with fail
          refine (HW.out _ hm1 hS1.q (by omega)).mono ?_
          rintro e w2 ⟨rfl, hr2, hs2⟩
          have hS2 : SQ w2 r s q2 mb σ1 := ⟨hr2, hS1.m.bes hs2 (hS1.m.ne hS1.q)⟩
          unfold ctkV
          go_wp2_with fail
          refine (codeS_in r s q2 p2 q2 mb σ1 t2 _ hS2).mono ?_
          rintro e w3 (⟨σ', c, h, rfl, hS3, hs3⟩ | ⟨k', h, rfl, hs3⟩)
          rotate_left
          · rw [H3.out] at h; cases h
          rw [H3.out] at h; cases h
          go_wp2_with (go_at_call 64; (with_reducible refine (must_yes _ _).mono ?_); rintro e w9 ⟨rfl, rfl⟩)
          go_ret2
          exact ⟨rfl, q2, n5, rfl, hS3, (((Bes2.of_below (show Below w.heap.size w (w.alloc _) from (by repeat' (first | (with_reducible first | exact Below.refl _ _ | refine Below.drew ?_ | refine belowDrewN ?_ _ | refine belowIter ?_ ?_ _ _ | refine Below.setCell ?_ ?_ _ | refine Below.alloc ?_ ?_ _ | refine bT hb4 ?_ ?_ | refine bT hb3 ?_ ?_ | refine bT hb2 ?_ ?_ | refine bT hb1 ?_ ?_ | refine bT hbr ?_ ?_ | refine bT hb ?_ ?_) | (simp; done) | (simp; omega) | omega)))).trans (hs1.any mb)).trans (hs2.any mb)).trans (hs3.any mb)⟩
        · rw [if_neg hle] at hR
          subst hR
          have d1 : decide (x ≤ y) = false := by simpa using hle
          clear hle
          go_enter Tryz.func89, Tryz.ntmps89
          go_wp2_with fail
          refine (codeS_in r s a p q mb σ t _ (hS.below (by repeat' (first | (with_reducible first | exact Below.refl _ _ | refine Below.drew ?_ | refine belowDrewN ?_ _ | refine belowIter ?_ ?_ _ _ | refine Below.setCell ?_ ?_ _ | refine Below.alloc ?_ ?_ _ | refine bT hb4 ?_ ?_ | refine bT hb3 ?_ ?_ | refine bT hb2 ?_ ?_ | refine bT hb1 ?_ ?_ | refine bT hbr ?_ ?_ | refine bT hb ?_ ?_) | (simp; done) | (simp; omega) | omega)))).mono ?_
          rintro e w1 (⟨σ', c, h, rfl, hS1, hs1⟩ | ⟨k', h, rfl, hs1⟩)
          rotate_left
          · rw [H1.out] at h; cases h
          rw [H1.out] at h; cases h
          have hm1 : MaxW w1 m := (hm.below (w' := w.alloc (.cells #[.int .i64 t.kind, .int .i64 p, .int .i64 q, .int .i64 t.n, .string ⟨t.s.toArray⟩] 59)) (by repeat' (first | (with_reducible first | exact Below.refl _ _ | refine Below.drew ?_ | refine belowDrewN ?_ _ | refine belowIter ?_ ?_ _ _ | refine Below.setCell ?_ ?_ _ | refine Below.alloc ?_ ?_ _ | refine bT hb4 ?_ ?_ | refine bT hb3 ?_ ?_ | refine bT hb2 ?_ ?_ | refine bT hb1 ?_ ?_ | refine bT hbr ?_ ?_ | refine bT hb ?_ ?_) | (simp; done) | (simp; omega) | omega))).bes2 hs1 hnr hnr
          have hz1 := hs1.size
          simp at hz1
          go_wp2_with fail
          refine (HW.out _ hm1 hS1.q (by omega)).mono ?_
          rintro e w2 ⟨rfl, hr2, hs2⟩
          have hS2 : SQ w2 r s q2 mb σ1 := ⟨hr2, hS1.m.bes hs2 (hS1.m.ne hS1.q)⟩
          unfold ctkV
          go_wp2_with fail
          refine (codeS_in r s q2 p2 q2 mb σ1 t2 _ hS2).mono ?_
          rintro e w3 (⟨σ', c, h, rfl, hS3, hs3⟩ | ⟨k', h, rfl, hs3⟩)
          rotate_left
          · rw [H3.out] at h; cases h
          rw [H3.out] at h; cases h
          go_wp2_with (go_at_call 64; (with_reducible refine (must_no _ _).mono ?_); rintro e w9 ⟨rfl, rfl⟩)
          exact ⟨rfl, rfl, (((Bes2.of_below (show Below w.heap.size w (w.alloc _) from (by repeat' (first | (with_reducible first | exact Below.refl _ _ | refine Below.drew ?_ | refine belowDrewN ?_ _ | refine belowIter ?_ ?_ _ _ | refine Below.setCell ?_ ?_ _ | refine Below.alloc ?_ ?_ _ | refine bT hb4 ?_ ?_ | refine bT hb3 ?_ ?_ | refine bT hb2 ?_ ?_ | refine bT hb1 ?_ ?_ | refine bT hbr ?_ ?_ | refine bT hb ?_ ?_) | (simp; done) | (simp; omega) | omega)))).trans (hs1.any mb)).trans (hs2.any mb)).trans (hs3.any mb)⟩
end Go.Proofs.YtibffdaljmmdoaaGreatDoor
/- The reader of a character code mapping: the texts of a list. -/
namespace Go.Proofs.YtibffdaljmmdoaaGreatDoor
open Go.RowKit Fo Go.Maps

theorem own_lt {w : World} {B n : Nat} {e : TypeId} {v : Value} {k : Nat} {xs : List Value} (h : w.ownsRow B e n v k xs) : v.ownBlock = none ∨ ∃ g, v.ownBlock = some g ∧ B ≤ g ∧ g < w.heap.size := by
  rcases h.2 with ⟨h1, _⟩ | ⟨g, cap, cur, h1, h2, h3, _⟩
  · subst h1; exact .inl rfl
  · subst h1; exact .inr ⟨g, rfl, h2, (Array.getElem?_eq_some_iff.1 h3).1⟩
theorem own_bes {w w' : World} {r m B n : Nat} {e : TypeId} {v : Value} {k : Nat} {xs : List Value} (h : w.ownsRow B e n v k xs) (hb : Bes2 r m w w') (hr : r < B) (hm : m < B) : w'.ownsRow B e n v k xs := by
  have hl := own_lt h
  rcases hl with hl | ⟨g, hg, h1, h2⟩
  · rcases h.2 with ⟨e1, e2⟩ | ⟨g, cap, cur, e1, _⟩
    · exact ⟨h.1, .inl ⟨e1, e2⟩⟩
    · subst e1; simp [Value.ownBlock] at hl
  · rcases h.2 with ⟨e1, e2⟩ | ⟨g', cap, cur, e1, e2, e3, e4⟩
    · exact ⟨h.1, .inl ⟨e1, e2⟩⟩
    · subst e1
      simp [Value.ownBlock] at hg
      subst hg
      exact ⟨h.1, .inr ⟨g', cap, cur, rfl, e2, (hb.block g' h2 (by omega) (by omega)).trans e3, e4⟩⟩
/-- One string is appended to strings of the call's own. -/
theorem cappendS {ops : Array Oper} {rest : List Oper} {o : Oper} {a : Act} {Q : Exit → Act → World → Prop} {w : World} (hgd : o.guard = none) (s x : Operand)
    (ho : o.op = .call { callee := .builtin .append, args := #[s, x], argTypes := #[65, 65] })
    (B : Nat) (v : Value) (ss : List L) (y : L) (hown : cownS w B v ss) (hs : a.eval s = v)
    (hx : a.eval x = .slice (some ⟨w.heap.size, 0, none⟩) 1 1) (hlen : ss.length ≤ 1000000000) (hB : B ≤ w.heap.size)
    (h : ∀ p c w', cownS w' B (.slice p (ss.length + 1) c) (ss ++ [y]) → Below B w w' → w.heap.size < w'.heap.size → wpList Tryz.prog ops Q rest (a.put o.dst (.slice p (ss.length + 1) c)) w') :
    wpList Tryz.prog ops Q (o :: rest) a (w.alloc (.cells #[.string ⟨y.toArray⟩] 9)) := by
  obtain ⟨i0, hi, hz0, hz1, hz2⟩ := info_parts Tryz.cinfoStr
  refine wpList_append_own _ hgd s x 65 ho B 9 i0 (.string ⟨#[]⟩) 1 16 Tryz.underlying65 hi hz0 hz1 hz2 rfl (by decide) v ss.length _ hs (hown.alloc _) ⟨w.heap.size, 0, none⟩ 1 1 [.string ⟨y.toArray⟩] hx rfl ?_ ?_ ?_ ?_ ?_ ?_
  · exact World.news_of_block (cs := #[.string ⟨y.toArray⟩]) (t := 9) (fr := (0, 0)) (heap_alloc_new w _)
  · intro u hu; simp at hu; subst hu; rfl
  · unfold maxLen; omega
  · omega
  · simp; omega
  · intro v' w' hown' hg _
    obtain ⟨p, c, rfl⟩ := cown_slice hown'
    refine h p c w' ?_ (((Below.refl B w).alloc hB _).trans ((Below.refl B _).grown hg (by simp; omega) (own_base hown))) (by have := hg.size; simp at this; omega)
    unfold cownS
    rw [List.map_append, List.length_append]
    exact hown'
def qPos (w : World) (r : Nat) : Nat := match w.cell? ⟨r, 1, none⟩ with | some (.int _ n) => n.toNat | _ => 0
theorem QAt.pos {w : World} {r : Nat} {s : ByteArray} {a z t mb : Nat} (h : QAt w r s a z t mb) : qPos w r = a := by
  unfold qPos; rw [h.cells.2.1]; simp
/-- What a list's texts turn. -/
def SevP (r : Nat) (s : ByteArray) (mb : Nat) (σ : CS) (w : World) (many : Int) (R : Res (List L × L)) (e : Ending) (w' : World) : Prop :=
  match R with
  | .good (xs, l) => ((xs.length : Int) = many ∧ ∃ v a, e = .returned v ∧ cownS w' w.heap.size v xs ∧ a ≤ s.size ∧ l = s.data.toList.drop a ∧ SQ w' r s a mb σ ∧ Bes2 r mb w w') ∨ ((xs.length : Int) ≠ many ∧ e = .panicked [{ v := .iface 77 (.int .i64 3), recovered := false }] ∧ Bes2 r mb w w')
  | .bad k => e = .panicked [{ v := .iface 77 (.int .i64 k), recovered := false }] ∧ Bes2 r mb w w'
theorem sevC_bad {n : Nat} {l : L} {acc : List L} {k : Int} (h : nextS l = .bad k) : sevC (n + 1) l acc = .bad k := by rw [sevC, h]
theorem sevC_end {n : Nat} {l r : L} {acc : List L} {t : Tok} (h : nextS l = .good (t, r)) (h1 : t.kind = 6) (h2 : t.s = [93]) : sevC (n + 1) l acc = .good (acc, r) := by
  rw [sevC, h]; dsimp only; rw [if_pos ⟨h1, h2⟩]
theorem sevC_tbad {n : Nat} {l r : L} {acc : List L} {t : Tok} {k : Int} (h : nextS l = .good (t, r)) (h1 : ¬ (t.kind = 6 ∧ t.s = [93])) (h2 : textC t = .bad k) : sevC (n + 1) l acc = .bad k := by
  rw [sevC, h]; dsimp only; rw [if_neg h1, h2]
theorem sevC_more {n : Nat} {l r x : L} {acc : List L} {t : Tok} (h : nextS l = .good (t, r)) (h1 : ¬ (t.kind = 6 ∧ t.s = [93])) (h2 : textC t = .good x) : sevC (n + 1) l acc = sevC n r (acc ++ [x]) := by
  rw [sevC, h]; dsimp only; rw [if_neg h1, h2]
theorem cwordT_short {r : L} {t : Tok} (h : wordT r = .good t) : t.s.length ≤ 32767 := by
  unfold wordT at h
  split at h
  · split at h
    · cases h
    · cases h; simp
  · split at h
    · split at h
      · cases h; simp
      · cases h
      · obtain ⟨rfl, h2⟩ := told_good h; show r.length ≤ _; omega
    · obtain ⟨rfl, h2⟩ := told_good h; show r.length ≤ _; omega
theorem ctokT_short {l : L} {t : Tok} (h : tokT l = .good t) : t.s.length ≤ 32767 := by
  cases l with
  | nil => cases h
  | cons c l =>
    unfold tokT at h
    dsimp only at h
    split at h
    · cases h; simp
    · split at h
      · split at h
        · cases h; simp
        · obtain ⟨x, m, h1, rfl, h2⟩ := strOf_good h; exact h2
      · split at h
        · split at h
          · cases h; simp
          · cases h
        · split at h
          · obtain ⟨x, h1, rfl, h2⟩ := nameOf_good h; show x.length ≤ _; omega
          · split at h
            · obtain ⟨x, m, h1, rfl, h2⟩ := strOf_good h; exact h2
            · split at h
              · cases h
              · exact cwordT_short h
theorem cnextT_short {l : L} {t : Tok} (h : (nextT l).2 = .good t) : t.s.length ≤ 32767 := by
  unfold nextT at h
  simp only at h
  split at h
  · cases h; simp
  · exact ctokT_short h
theorem tok_len {l : L} {t : Tok} (h : (nextT l).2 = .good t) : t.s.length ≤ 1000000000 := Nat.le_trans (cnextT_short h) (by decide)
theorem MpAt.any {w w' : World} {mb n r : Nat} {m : CM} (h : MpAt w mb n m) (hb : Bes2 r r w w') (hne : r ≠ mb) : MpAt w' mb n m := h.bes hb hne
set_option maxRecDepth 100000 in
set_option maxHeartbeats 2000000 in
theorem several_in (r : Nat) (s : ByteArray) (a mb : Nat) (σ : CS) (many : Int) (ha : a ≤ s.size) (hs : s.size ≤ 1000000000) (m : Int) (w : World) (hm : MaxW w m) (hS : SQ w r s a mb σ) (fuel : Nat) (hf : s.size - a < fuel) :
    Calls Tryz.prog 93 #[.pointer (some ⟨r, 0, none⟩), .int .i64 many] w (SevP r s mb σ w many (sevC fuel (s.data.toList.drop a) [])) := by
  obtain ⟨R, hR⟩ : ∃ R, sevC fuel (s.data.toList.drop a) [] = R := ⟨_, rfl⟩
  rw [hR]
  have HR := Lib.hid hR
  have hlt := hS.q.lt
  have hltm := hS.m.lt
  have hnr := Lib.hid (hm.neQ hS.q)
  have hnm := Lib.hid (hm.neM hS.m)
  clear hR
  go_enter Tryz.func93, Tryz.ntmps93
  go_wp2
  go_loopw [5] (fun v wr => ∃ (b n : Nat) (acc : List L), b ≤ s.size ∧ Hid (s.size - b < n) ∧ Hid (acc.length ≤ b) ∧ cownS wr w.heap.size v acc ∧ SQ wr r s b mb σ ∧ Hid (Bes2 r mb w wr) ∧ Hid (sevC n (s.data.toList.drop b) acc = R)) (fun _ wr => s.size - qPos wr r)
  case atStart => exact ⟨a, fuel, [], ha, Lib.hid hf, Lib.hid (Nat.zero_le _), cownS_nil _ _, hS, Lib.hid (Bes2.refl _ _ _), HR⟩
  case round =>
    obtain ⟨b, n, acc, hb, HN, HL, hown, hSr, HB, HX⟩ := hrel
    have hmr := hm.bes2 HB.out hnr.out hnm.out
    obtain ⟨pv, cv, rfl⟩ := cown_slice hown
    obtain ⟨n, rfl⟩ : ∃ n', n = n' + 1 := ⟨n - 1, by have := HN.out; omega⟩
    clear hS HR
    cases hn : nextS (s.data.toList.drop b) with
    | bad k =>
      obtain rfl : R = .bad k := by rw [← HX.out, sevC_bad hn]
      have HW := Lib.hid (fun W hm hr hmb => within_bad r s b σ.size σ.told mb k hb hs m W hm hr hmb hn)
      clear hn
      go_wp2_with fail
      refine (HW.out _ hmr hSr.q (by have := hSr.m.lt; omega)).mono ?_
      rintro e w1 ⟨rfl, hs1⟩
      go_wp2
      exact ⟨rfl, rfl, HB.out.trans (hs1.any mb)⟩
    | good y =>
      obtain ⟨t, l2⟩ := y
      obtain ⟨p2, q2, n1, n2, n3, n4, n5, rfl⟩ := nextS_pos hn hb
      have hlen := tok_len n1
      have hq : b < q2 := by
        have := (nextS_shorter hn).1
        have h2 : s.data.toList.length = s.size := by simp
        rw [List.length_drop, List.length_drop, h2] at this; omega
      have HW := Lib.hid (fun W hm hr hmb => within_good r s b p2 q2 σ.size σ.told mb t hb hs m W hm hr hmb n1 n2 n3 n4)
      by_cases hend : t.kind = 6 ∧ t.s = [93]
      · obtain ⟨h1, h2⟩ := hend
        obtain rfl : R = .good (acc, s.data.toList.drop q2) := by rw [← HX.out, sevC_end hn h1 h2]
        have k6 : (t.kind == 6) = true := by simpa using h1
        have s9 : (t.s == [93]) = true := by simpa using h2
        by_cases hmany : (acc.length : Int) = many
        · have d1 : ((acc.length : Int) == many) = true := by simpa using hmany
          have HMY := Lib.hid hmany
          clear hn n1 n2 n3 n4 h1 h2 hmany
          go_wp2_with fail
          refine (HW.out _ hmr hSr.q (by have := hSr.m.lt; omega)).mono ?_
          rintro e w1 ⟨rfl, hr1, hs1⟩
          have hS1 : SQ w1 r s q2 mb σ := ⟨hr1, hSr.m.bes hs1 (hSr.m.ne hSr.q)⟩
          have hz1 := hs1.size
          have hzr := HB.out.size
          have own1 : cownS w1 w.heap.size (.slice pv acc.length cv) acc := own_bes hown hs1 hlt hlt
          unfold ctkV
          go_wp2_with (go_at_call 64; (with_reducible refine (must_yes _ _).mono ?_); rintro e w9 ⟨rfl, rfl⟩)
          go_ret
          exact .inl ⟨HMY.out, _, q2, rfl, cownS_below own1 (by repeat' (first | (with_reducible first | exact Below.refl _ _ | refine Below.drew ?_ | refine belowDrewN ?_ _ | refine belowIter ?_ ?_ _ _ | refine Below.setCell ?_ ?_ _ | refine Below.alloc ?_ ?_ _ | refine bT hb4 ?_ ?_ | refine bT hb3 ?_ ?_ | refine bT hb2 ?_ ?_ | refine bT hb1 ?_ ?_ | refine bT hbr ?_ ?_ | refine bT hb ?_ ?_) | (simp; done) | (simp; omega) | omega)), n5, rfl, hS1.below (by repeat' (first | (with_reducible first | exact Below.refl _ _ | refine Below.drew ?_ | refine belowDrewN ?_ _ | refine belowIter ?_ ?_ _ _ | refine Below.setCell ?_ ?_ _ | refine Below.alloc ?_ ?_ _ | refine bT hb4 ?_ ?_ | refine bT hb3 ?_ ?_ | refine bT hb2 ?_ ?_ | refine bT hb1 ?_ ?_ | refine bT hbr ?_ ?_ | refine bT hb ?_ ?_) | (simp; done) | (simp; omega) | omega)), (HB.out.trans (hs1.any mb)).below (by repeat' (first | (with_reducible first | exact Below.refl _ _ | refine Below.drew ?_ | refine belowDrewN ?_ _ | refine belowIter ?_ ?_ _ _ | refine Below.setCell ?_ ?_ _ | refine Below.alloc ?_ ?_ _ | refine bT hb4 ?_ ?_ | refine bT hb3 ?_ ?_ | refine bT hb2 ?_ ?_ | refine bT hb1 ?_ ?_ | refine bT hbr ?_ ?_ | refine bT hb ?_ ?_) | (simp; done) | (simp; omega) | omega))⟩
        · have d1 : ((acc.length : Int) == many) = false := by simpa using hmany
          have HMY := Lib.hid hmany
          clear hn n1 n2 n3 n4 h1 h2 hmany
          go_wp2_with fail
          refine (HW.out _ hmr hSr.q (by have := hSr.m.lt; omega)).mono ?_
          rintro e w1 ⟨rfl, hr1, hs1⟩
          have hS1 : SQ w1 r s q2 mb σ := ⟨hr1, hSr.m.bes hs1 (hSr.m.ne hSr.q)⟩
          have hz1 := hs1.size
          have hzr := HB.out.size
          have own1 : cownS w1 w.heap.size (.slice pv acc.length cv) acc := own_bes hown hs1 hlt hlt
          unfold ctkV
          go_wp2_with (go_at_call 64; (with_reducible refine (must_no _ _).mono ?_); rintro e w9 ⟨rfl, rfl⟩)
          exact ⟨rfl, .inr ⟨HMY.out, rfl, (HB.out.trans (hs1.any mb)).below (by repeat' (first | (with_reducible first | exact Below.refl _ _ | refine Below.drew ?_ | refine belowDrewN ?_ _ | refine belowIter ?_ ?_ _ _ | refine Below.setCell ?_ ?_ _ | refine Below.alloc ?_ ?_ _ | refine bT hb4 ?_ ?_ | refine bT hb3 ?_ ?_ | refine bT hb2 ?_ ?_ | refine bT hb1 ?_ ?_ | refine bT hbr ?_ ?_ | refine bT hb ?_ ?_) | (simp; done) | (simp; omega) | omega))⟩⟩
      · have hkk : (t.kind == 6 && t.s == [93]) = false := by
          cases h : (t.kind == 6 && t.s == [93])
          · rfl
          · simp only [Bool.and_eq_true, beq_iff_eq] at h
            exact absurd h hend
        cases hx : textC t with
        | bad k =>
          obtain rfl : R = .bad k := by rw [← HX.out, sevC_tbad hn hend hx]
          have HTX := Lib.hid (fun W => text_bad t p2 q2 k hlen hx W)
          clear hn n1 n2 n3 n4 hx
          cases k6 : (t.kind == 6)
          · clear hend hkk
            go_wp2_with fail
            refine (HW.out _ hmr hSr.q (by have := hSr.m.lt; omega)).mono ?_
            rintro e w1 ⟨rfl, hr1, hs1⟩
            have hS1 : SQ w1 r s q2 mb σ := ⟨hr1, hSr.m.bes hs1 (hSr.m.ne hSr.q)⟩
            have hz1 := hs1.size
            have hzr := HB.out.size
            have own1 : cownS w1 w.heap.size (.slice pv acc.length cv) acc := own_bes hown hs1 hlt hlt
            unfold ctkV
            go_wp2_with fail
            refine (HTX.out _).mono ?_
            rintro e w5 ⟨rfl, hb5⟩
            go_wp2
            exact ⟨rfl, rfl, ((HB.out.trans (hs1.any mb)).below (show Below w1.heap.size w1 (w1.alloc _) from (Below.refl _ _).alloc (Nat.le_refl _) _)).below hb5⟩
          · have s9 : (t.s == [93]) = false := by rw [k6] at hkk; simpa using hkk
            clear hend hkk
            go_wp2_with fail
            refine (HW.out _ hmr hSr.q (by have := hSr.m.lt; omega)).mono ?_
            rintro e w1 ⟨rfl, hr1, hs1⟩
            have hS1 : SQ w1 r s q2 mb σ := ⟨hr1, hSr.m.bes hs1 (hSr.m.ne hSr.q)⟩
            have hz1 := hs1.size
            have hzr := HB.out.size
            have own1 : cownS w1 w.heap.size (.slice pv acc.length cv) acc := own_bes hown hs1 hlt hlt
            unfold ctkV
            go_wp2_with fail
            refine (HTX.out _).mono ?_
            rintro e w5 ⟨rfl, hb5⟩
            go_wp2
            exact ⟨rfl, rfl, ((HB.out.trans (hs1.any mb)).below (show Below w1.heap.size w1 (w1.alloc _) from (Below.refl _ _).alloc (Nat.le_refl _) _)).below hb5⟩
        | good x =>
          have HX2 := Lib.hid (show sevC n (s.data.toList.drop q2) (acc ++ [x]) = R by rw [← HX.out, sevC_more hn hend hx])
          have HTX := Lib.hid (fun W => text_good t p2 q2 x hlen hx W)
          have haq : acc.length ≤ 1000000000 := by have := HL.out; omega
          clear hn n1 n2 n3 n4 hx HX
          have htot : (t.kind == 6) = false ∨ (t.kind == 6) = true ∧ (t.s == [93]) = false := by
            cases k6 : (t.kind == 6)
            · exact .inl rfl
            · rw [k6] at hkk; exact .inr ⟨rfl, by simpa using hkk⟩
          clear hend hkk
          rcases htot with k6 | ⟨k6, s9⟩
          ·
            go_wp2_with fail
            refine (HW.out _ hmr hSr.q (by have := hSr.m.lt; omega)).mono ?_
            rintro e w1 ⟨rfl, hr1, hs1⟩
            have hS1 : SQ w1 r s q2 mb σ := ⟨hr1, hSr.m.bes hs1 (hSr.m.ne hSr.q)⟩
            have hz1 := hs1.size
            have hzr := HB.out.size
            have own1 : cownS w1 w.heap.size (.slice pv acc.length cv) acc := own_bes hown hs1 hlt hlt
            unfold ctkV
            go_wp2_with fail
            refine (HTX.out _).mono ?_
            rintro e w5 ⟨rfl, hb5⟩
            have own5 : cownS w5 w.heap.size (.slice pv acc.length cv) acc := cownS_below (cownS_below own1 (show Below w1.heap.size w1 (w1.alloc _) from (Below.refl _ _).alloc (Nat.le_refl _) _)) hb5
            have hz5 := hb5.size
            simp at hz5
            have hB5 : w.heap.size ≤ w5.heap.size := by omega
            have hS5 : SQ w5 r s q2 mb σ := (hS1.below (show Below w1.heap.size w1 (w1.alloc _) from (Below.refl _ _).alloc (Nat.le_refl _) _)).below hb5
            have HB5 := Lib.hid (((HB.out.trans (hs1.any mb)).below (show Below w1.heap.size w1 (w1.alloc _) from (Below.refl _ _).alloc (Nat.le_refl _) _)).below hb5)
            have HS5 := Lib.hid hS5
            have HO5 := Lib.hid own5
            clear own5 own1 hS5 hS1 hr1
            go_wp2_with (at_builtin; refine cappendS rfl _ _ rfl w.heap.size (.slice pv acc.length cv) acc x HO5.out rfl rfl haq hB5 ?_; intro p6 c6 w6 own6 hb6 hlt6)
            have HQ6 := Lib.hid (HS5.out.belowB hb6 hlt hltm)
            have HP6 := Lib.hid (HQ6.out.q.pos)
            have HPr := Lib.hid hSr.q.pos
            have HO6 := Lib.hid own6
            have HB6 := Lib.hid (HB5.out.belowB hb6 (Nat.le_refl _))
            clear own6
            go_roundw
            case rel => exact ⟨q2, n, acc ++ [x], n5, Lib.hid (by have := HN.out; omega), Lib.hid (by have := HL.out; simp; omega), HO6.out, HQ6.out, HB6, HX2⟩
            case measure => rw [HPr.out, HP6.out]; omega
          ·
            go_wp2_with fail
            refine (HW.out _ hmr hSr.q (by have := hSr.m.lt; omega)).mono ?_
            rintro e w1 ⟨rfl, hr1, hs1⟩
            have hS1 : SQ w1 r s q2 mb σ := ⟨hr1, hSr.m.bes hs1 (hSr.m.ne hSr.q)⟩
            have hz1 := hs1.size
            have hzr := HB.out.size
            have own1 : cownS w1 w.heap.size (.slice pv acc.length cv) acc := own_bes hown hs1 hlt hlt
            unfold ctkV
            go_wp2_with fail
            refine (HTX.out _).mono ?_
            rintro e w5 ⟨rfl, hb5⟩
            have own5 : cownS w5 w.heap.size (.slice pv acc.length cv) acc := cownS_below (cownS_below own1 (show Below w1.heap.size w1 (w1.alloc _) from (Below.refl _ _).alloc (Nat.le_refl _) _)) hb5
            have hz5 := hb5.size
            simp at hz5
            have hB5 : w.heap.size ≤ w5.heap.size := by omega
            have hS5 : SQ w5 r s q2 mb σ := (hS1.below (show Below w1.heap.size w1 (w1.alloc _) from (Below.refl _ _).alloc (Nat.le_refl _) _)).below hb5
            have HB5 := Lib.hid (((HB.out.trans (hs1.any mb)).below (show Below w1.heap.size w1 (w1.alloc _) from (Below.refl _ _).alloc (Nat.le_refl _) _)).below hb5)
            have HS5 := Lib.hid hS5
            have HO5 := Lib.hid own5
            clear own5 own1 hS5 hS1 hr1
            go_wp2_with (at_builtin; refine cappendS rfl _ _ rfl w.heap.size (.slice pv acc.length cv) acc x HO5.out rfl rfl haq hB5 ?_; intro p6 c6 w6 own6 hb6 hlt6)
            have HQ6 := Lib.hid (HS5.out.belowB hb6 hlt hltm)
            have HP6 := Lib.hid (HQ6.out.q.pos)
            have HPr := Lib.hid hSr.q.pos
            have HO6 := Lib.hid own6
            have HB6 := Lib.hid (HB5.out.belowB hb6 (Nat.le_refl _))
            clear own6
            go_roundw
            case rel => exact ⟨q2, n, acc ++ [x], n5, Lib.hid (by have := HN.out; omega), Lib.hid (by have := HL.out; simp; omega), HO6.out, HQ6.out, HB6, HX2⟩
            case measure => rw [HPr.out, HP6.out]; omega
end Go.Proofs.YtibffdaljmmdoaaGreatDoor
/- The reader of a character code mapping: a range whose last unit rises. -/
namespace Go.Proofs.YtibffdaljmmdoaaGreatDoor
open Go.RowKit Fo Go.Maps

/-- What a step turns that reads no token. -/
def TelP (r : Nat) (s : ByteArray) (a mb : Nat) (w : World) (R : Res CS) (e : Ending) (w' : World) : Prop :=
  match R with
  | .good σ => e = .returned (.tuple #[]) ∧ SQ w' r s a mb σ ∧ σ.told ≤ 4096 ∧ Bes2 r mb w w'
  | .bad k => e = .panicked [{ v := .iface 77 (.int .i64 k), recovered := false }] ∧ Bes2 r mb w w'
theorem tellC_told {σ σ' : CS} {c : Int} {x : L} (h : tellC σ c x = .good σ') : σ'.told ≤ 4096 := by
  unfold tellC at h
  split at h
  · cases h
  · cases h; dsimp only; omega
theorem tellS_in (r : Nat) (s : ByteArray) (a mb : Nat) (σ : CS) (c : Int) (x : L) (h0 : 0 ≤ c) (h1 : c ≤ 1000000) (hx : x.length ≤ 1000000000000) (w : World) (hS : SQ w r s a mb σ) (ht : σ.told ≤ 4096) :
    Calls Tryz.prog 90 #[.pointer (some ⟨r, 0, none⟩), .int .i64 c, .string ⟨x.toArray⟩] w (TelP r s a mb w (tellC σ c x)) := by
  refine (tell_in r s a mb σ c x h0 h1 hx w hS.q hS.m ht).mono ?_
  intro e w' h
  cases hR : tellC σ c x with
  | good σ' => rw [hR] at h; obtain ⟨h1, h2, h3, h4⟩ := h; exact ⟨h1, ⟨h2, h3⟩, tellC_told hR, h4⟩
  | bad k => rw [hR] at h; exact h
theorem textOf_len (l : List (Nat × Bool)) : (textOf l).length ≤ 4 * l.length := by
  induction l with
  | nil => simp [textOf]
  | cons x l ih =>
    have := encodeRune_len x.1
    have e : textOf (x :: l) = Lib.encodeRune (x.1 : Int) ++ textOf l := List.flatMap_cons ..
    rw [e, List.length_append, List.length_cons]; omega
theorem text16_len {us : List Nat} {x : L} (h : text16 us = some x) : x.length ≤ 4 * us.length := by
  unfold text16 at h
  split at h
  · cases h
    have := textOf_len (signsL us)
    have := signsL_len us
    omega
  · cases h
theorem ownU_set {w : World} {B g n c : Nat} {u : List Nat} {y z : Nat} (h : ownU w B (.slice (some ⟨g, 0, none⟩) n c) (u ++ [y])) (hn : n = u.length + 1) :
    ownU (w.setCell ⟨g, u.length, none⟩ (.int .u16 (z : Int))) B (.slice (some ⟨g, 0, none⟩) n c) (u ++ [z]) := by
  subst hn
  unfold ownU at *
  have hl : (u ++ [y]).length = u.length + 1 := by simp
  have hl2 : (u ++ [z]).length = u.length + 1 := by simp
  rw [hl] at h
  rw [hl2]
  have := (World.ownsRow.stored h u.length (.int .u16 (z : Int))).1
  simpa using this
set_option maxRecDepth 100000 in
set_option maxHeartbeats 2000000 in
theorem rising_in (r : Nat) (s : ByteArray) (a p q mb : Nat) (σ : CS) (t : Tok) (fr : Int) (many : Nat) (hf0 : 0 ≤ fr) (hf1 : fr ≤ 65535) (hm0 : 1 ≤ many) (hm1 : many ≤ 65536) (hlen : t.s.length ≤ 32767) (w : World) (hS : SQ w r s a mb σ) (ht : σ.told ≤ 4096) :
    Calls Tryz.prog 94 #[.pointer (some ⟨r, 0, none⟩), .agg #[.int .i64 t.kind, .int .i64 p, .int .i64 q, .int .i64 t.n, .string ⟨t.s.toArray⟩], .int .i64 fr, .int .i64 many] w (TelP r s a mb w (risingC σ t fr many)) := by
  obtain ⟨R, hR⟩ : ∃ R, risingC σ t fr many = R := ⟨_, rfl⟩
  rw [hR]
  unfold risingC at hR
  have hlt := hS.q.lt
  have hltm := hS.m.lt
  cases hx : textC t with
  | bad k =>
    rw [hx] at hR
    subst hR
    have HTX := Lib.hid (fun W => text_bad t p q k (by omega) hx W)
    clear hx
    go_enter Tryz.func94, Tryz.ntmps94
    go_wp2_with fail
    refine (HTX.out _).mono ?_
    rintro e w1 ⟨rfl, hb1⟩
    go_wp2
    exact ⟨rfl, rfl, Bes2.of_below ((show Below w.heap.size w (w.alloc _) from (Below.refl _ _).alloc (Nat.le_refl _) _).trans (hb1.mono (by simp)))⟩
  | good x =>
    rw [hx] at hR
    dsimp only at hR
    have HTX := Lib.hid (fun W => text_good t p q x (by omega) hx W)
    have HUN := Lib.hid (fun W => units_in ⟨t.s.toArray⟩ (by show t.s.length ≤ _; omega) W)
    simp only at HUN
    have hul := unitsN_len t.s
    have hulb := unitsN_lt t.s
    obtain ⟨us, hus⟩ : ∃ us, unitsN t.s = us := ⟨_, rfl⟩
    rw [hus] at hR HUN hul hulb
    clear hx hus
    by_cases hnil : us = []
    · rw [if_pos hnil] at hR
      subst hR
      subst hnil
      clear hul hulb
      go_enter Tryz.func94, Tryz.ntmps94
      go_wp2_with fail
      refine (HTX.out _).mono ?_
      rintro e w1 ⟨rfl, hb1⟩
      obtain ⟨hc, hf⟩ := bcell hb1
      have hz := hb1.size
      simp at hz
      go_wp2_with fail
      refine (HUN.out _).mono ?_
      rintro e w2 ⟨v, rfl, hown, hb2⟩
      obtain ⟨pv, cv, rfl⟩ := ownU_slice hown
      go_wp2_with (go_at_call 64; (with_reducible refine (must_no _ _).mono ?_); rintro e w9 ⟨rfl, h9⟩; obtain rfl := h9.symm)
      exact ⟨rfl, rfl, Bes2.of_below (((show Below w.heap.size w (w.alloc _) from (Below.refl _ _).alloc (Nat.le_refl _) _).trans (hb1.mono (by simp))).trans (hb2.mono (by omega)))⟩
    · rw [if_neg hnil] at hR
      obtain ⟨u, lst, rfl⟩ : ∃ u lst, us = u ++ [lst] := ⟨us.dropLast, us.getLast hnil, (List.dropLast_concat_getLast hnil).symm⟩
      have hlst : lst < 65536 := hulb lst (by simp)
      have e1 : (u ++ [lst]).getLastD 0 = lst := by simp
      have e2 : (u ++ [lst]).dropLast = u := by simp
      rw [e1, e2] at hR
      obtain ⟨N, hN⟩ : ∃ N, u.length + 1 = N := ⟨_, rfl⟩
      have hN2 : (u ++ [lst]).length = N := by simp [hN]
      have hN0 : 1 ≤ N := by omega
      have hNb : N ≤ 20000 := by omega
      have HUB := Lib.hid (fun v (h : v ∈ u) => hulb v (by simp [h]))
      have HNN := Lib.hid hN
      clear hnil e1 e2 hulb
      by_cases hbig : 65535 < lst + many - 1
      · rw [if_pos hbig] at hR
        subst hR
        obtain ⟨z, hz⟩ : ∃ z : Int, (lst : Int) = z := ⟨_, rfl⟩
        have z0 : 0 ≤ z := by omega
        have z1 : z < 65536 := by omega
        have d1 : decide (z + (many : Int) - 1 ≤ 65535) = false := by simp; omega
        have HZ := Lib.hid hz
        have nN : 0 < N := by omega
        have nN1 : ((N : Int) - 1).toNat = u.length := by omega
        clear hbig hz
        go_enter Tryz.func94, Tryz.ntmps94
        go_wp2_with fail
        refine (HTX.out _).mono ?_
        rintro e w1 ⟨rfl, hb1⟩
        obtain ⟨hc, hf⟩ := bcell hb1
        have hz := hb1.size
        simp at hz
        go_wp2_with fail
        refine (HUN.out _).mono ?_
        rintro e w2 ⟨v, rfl, hown, hb2⟩
        obtain ⟨pv, cv, rfl⟩ := ownU_slice hown
        rw [hN2] at *
        obtain ⟨g, rfl, hg1, hg2, _⟩ := ownU_cell hown 0 (by simp)
        have c0 : w2.cell? ⟨g, u.length, none⟩ = some (.int .u16 z) := by
          obtain ⟨g', e, _, _, h4⟩ := ownU_cell hown u.length (by simp)
          cases e
          rw [h4, ← HZ.out]; simp
        have hb02 : Below w.heap.size w w2 := ((show Below w.heap.size w (w.alloc _) from (Below.refl _ _).alloc (Nat.le_refl _) _).trans (hb1.mono (by simp))).trans (hb2.mono (by omega))
        have HBE := Lib.hid (show Bes2 r mb w w2 from Bes2.of_below hb02)
        go_wp2_with (first | (go_at_call 64; (with_reducible refine (must_yes _ _).mono ?_); rintro e w9 ⟨rfl, h9⟩; obtain rfl := h9.symm) | (go_at_call 64; (with_reducible refine (must_no _ _).mono ?_); rintro e w9 ⟨rfl, h9⟩; obtain rfl := h9.symm))
        exact ⟨rfl, rfl, HBE.out⟩
      · rw [if_neg hbig] at hR
        obtain ⟨z, hz⟩ : ∃ z : Int, (lst : Int) = z := ⟨_, rfl⟩
        have z0 : 0 ≤ z := by omega
        have z1 : z < 65536 := by omega
        have d1 : decide (z + (many : Int) - 1 ≤ 65535) = true := by simp; omega
        have HZ := Lib.hid hz
        have zm : z + (many : Int) ≤ 65536 := by omega
        have nN : 0 < N := by omega
        have nN1 : ((N : Int) - 1).toNat = u.length := by omega
        have HR := Lib.hid hR
        clear hbig hz hR
        go_enter Tryz.func94, Tryz.ntmps94
        go_wp2_with fail
        refine (HTX.out _).mono ?_
        rintro e w1 ⟨rfl, hb1⟩
        obtain ⟨hc, hf⟩ := bcell hb1
        have hz := hb1.size
        simp at hz
        go_wp2_with fail
        refine (HUN.out _).mono ?_
        rintro e w2 ⟨v, rfl, hown, hb2⟩
        obtain ⟨pv, cv, rfl⟩ := ownU_slice hown
        rw [hN2] at *
        obtain ⟨g, rfl, hg1, hg2, _⟩ := ownU_cell hown 0 (by simp)
        have c0 : w2.cell? ⟨g, u.length, none⟩ = some (.int .u16 z) := by
          obtain ⟨g', e, _, _, h4⟩ := ownU_cell hown u.length (by simp)
          cases e
          rw [h4, ← HZ.out]; simp
        have hb02 : Below w.heap.size w w2 := ((show Below w.heap.size w (w.alloc _) from (Below.refl _ _).alloc (Nat.le_refl _) _).trans (hb1.mono (by simp))).trans (hb2.mono (by omega))
        have HBE := Lib.hid (show Bes2 r mb w w2 from Bes2.of_below hb02)
        have hBr : r < w1.heap.size ∧ mb < w1.heap.size := ⟨by omega, by omega⟩
        go_wp2_with (go_at_call 64; (with_reducible refine (must_yes _ _).mono ?_); rintro e w9 ⟨rfl, h9⟩; obtain rfl := h9.symm)
        go_loopw [36] (fun i wr => ∃ (k : Nat) (σk : CS) (y : Nat), k ≤ many ∧ i = .int .i64 k ∧ Hid (ownU wr w1.heap.size (.slice (some ⟨g, 0, none⟩) N cv) (u ++ [y])) ∧ SQ wr r s a mb σk ∧ Hid (σk.told ≤ 4096) ∧ Hid (Bes2 r mb w wr) ∧ Hid (riseC u lst fr (many - k) k σk = R)) (fun i _ => many - (intOf i).toNat)
        case atStart => exact ⟨0, σ, lst, Nat.zero_le _, rfl, Lib.hid hown, (hS.below hb02), Lib.hid ht, HBE, HR⟩
        case round =>
          clear hown c0 HR HBE hS
          obtain ⟨k, σk, y, hk, rfl, HO, hSr, HT4, HB, HX⟩ := hrel
          obtain ⟨hrg, hmg⟩ := hBr
          by_cases hlk : k < many
          · obtain ⟨n, hn⟩ : ∃ n, many - k = n + 1 := ⟨many - k - 1, by omega⟩
            rw [hn] at HX
            have HN1 := Lib.hid hn
            have c0 : wr.cell? ⟨g, u.length, none⟩ = some (.int .u16 (y : Int)) := by
              obtain ⟨g', e, _, _, h4⟩ := ownU_cell HO.out u.length (by simp)
              cases e
              rw [h4]; simp
            have f0 : wr.frozen? ⟨g, u.length, none⟩ = false := World.ownsRow.frozenAt (by have := HO.out; unfold ownU at this; rw [show (u ++ [y]).length = N from by rw [← HNN.out]; simp] at this; exact this) _
            have ez : ((lst + k : Nat) : Int) = z + (k : Int) := by rw [← HZ.out]; omega
            have q1 : IntKind.u16.wrap (z + (k : Int)) = z + (k : Int) := wraps_u16 _ (by omega) (by omega)
            have HO3 : Hid (ownU (wr.setCell ⟨g, u.length, none⟩ (.int .u16 (z + (k : Int)))) w1.heap.size (.slice (some ⟨g, 0, none⟩) N cv) (u ++ [lst + k])) := by
              have := ownU_set (z := lst + k) HO.out HNN.out.symm
              rw [ez] at this; exact Lib.hid this
            obtain ⟨w3, hw3⟩ : ∃ w3, wr.setCell ⟨g, u.length, none⟩ (.int .u16 (z + (k : Int))) = w3 := ⟨_, rfl⟩
            have hS3 : SQ w3 r s a mb σk := by
              rw [← hw3]
              exact ⟨hSr.q.kept (Below.heap_setCell _ _ _ _ (by show r ≠ g; omega)), hSr.m.kept (Below.heap_setCell _ _ _ _ (by show mb ≠ g; omega))⟩
            have HB3 := Lib.hid (show Bes2 r mb w w3 by rw [← hw3]; exact HB.out.setCell_new (by show w.heap.size ≤ g; omega) _)
            rw [hw3] at HO3
            have HT : Hid (∀ W, Below w3.heap.size w3 W ∨ W = w3 → Calls Tryz.prog 37 #[.slice (some ⟨g, 0, none⟩) N cv] W fun e w' => T16 (text16 (u ++ [lst + k])) e ∧ Below W.heap.size W w') := Lib.hid (fun W hW => by
              have hU : ownU W w1.heap.size (.slice (some ⟨g, 0, none⟩) N cv) (u ++ [lst + k]) := by
                rcases hW with hW | rfl
                · exact ownU_below HO3.out hW
                · exact HO3.out
              have := text16_in (some ⟨g, 0, none⟩) cv (u ++ [lst + k]) (by
                intro v hv
                simp only [List.mem_append, List.mem_singleton] at hv
                rcases hv with hv | rfl
                · exact HUB.out v hv
                · have := HZ.out; omega) (by rw [List.length_append]; have := HNN.out; simp; omega) W (ownU_cells hU)
              rw [show (u ++ [lst + k]).length = N from by rw [← HNN.out]; simp] at this
              exact this)
            have HL16 := Lib.hid (fun xk (h : text16 (u ++ [lst + k]) = some xk) => text16_len h)
            obtain ⟨T, hT⟩ : ∃ T, text16 (u ++ [lst + k]) = T := ⟨_, rfl⟩
            rw [riseC, hT] at HX
            rw [hT] at HT HL16
            clear hT hn
            have fk0 : 0 ≤ fr + (k : Int) := by omega
            have fk1 : fr + (k : Int) ≤ 1000000 := by omega
            cases T with
            | none =>
              obtain rfl : R = .bad 2 := HX.out.symm
              go_wp2_with fail
              try rw [hw3]
              refine (HT.out _ (.inr rfl)).mono ?_
              rintro e w4 ⟨rfl, hb4⟩
              go_wp2_with (go_at_call 64; (with_reducible refine (must_no _ _).mono ?_); rintro e w9 ⟨rfl, h9⟩; obtain rfl := h9.symm)
              exact ⟨rfl, rfl, HB3.out.below hb4⟩
            | some xk =>
              dsimp only at HX
              have hxk : xk.length ≤ 1000000000000 := by
                have := HL16.out xk rfl
                rw [List.length_append] at this; have := HNN.out; simp at *; omega
              cases hTe : tellC σk (fr + (k : Int)) xk with
              | bad k' =>
                rw [hTe] at HX
                obtain rfl : R = .bad k' := HX.out.symm
                have HTE := Lib.hid (fun W hS => hTe ▸ tellS_in r s a mb σk (fr + (k : Int)) xk fk0 fk1 hxk W hS HT4.out)
                clear hTe
                go_wp2_with fail
                try rw [hw3]
                refine (HT.out _ (.inr rfl)).mono ?_
                rintro e w4 ⟨rfl, hb4⟩
                have hS4 := hS3.below hb4
                go_wp2_with (first | (go_at_call 64; (with_reducible refine (must_yes _ _).mono ?_); rintro e w9 ⟨rfl, h9⟩; obtain rfl := h9.symm) | (go_at_call 90; refine (HTE.out _ hS4).mono ?_; rintro e w5 ⟨rfl, hs5⟩))
                exact ⟨rfl, rfl, (HB3.out.below hb4).trans hs5⟩
              | good σ' =>
                rw [hTe] at HX
                have HTE := Lib.hid (fun W hS => hTe ▸ tellS_in r s a mb σk (fr + (k : Int)) xk fk0 fk1 hxk W hS HT4.out)
                clear hTe
                go_wp2_with fail
                try rw [hw3]
                refine (HT.out _ (.inr rfl)).mono ?_
                rintro e w4 ⟨rfl, hb4⟩
                have hS4 := hS3.below hb4
                have HO4 := Lib.hid (ownU_below HO3.out hb4)
                go_wp2_with (first | (go_at_call 64; (with_reducible refine (must_yes _ _).mono ?_); rintro e w9 ⟨rfl, h9⟩; obtain rfl := h9.symm) | (go_at_call 90; refine (HTE.out _ hS4).mono ?_; rintro e w5 ⟨rfl, hS5, ht5, hs5⟩))
                have HH := Lib.hid (And.intro ht5 (And.intro hs5 (own_bes HO4.out hs5 hrg hmg)))
                clear ht5 hs5
                go_roundw
                case rel => exact ⟨k + 1, σ', lst + k, by omega, by go_num, Lib.hid HH.out.2.2, hS5, Lib.hid HH.out.1, Lib.hid ((HB3.out.below hb4).trans HH.out.2.1), Lib.hid (by rw [show many - (k + 1) = n by have := HN1.out; omega]; exact HX.out)⟩
                case measure => simp [intOf]; omega
          · obtain rfl : R = .good σk := by
              have := HX.out
              rw [show many - k = 0 by omega, riseC] at this
              exact this.symm
            go_wp2
            go_end0
            exact ⟨rfl, hSr, HT4.out, HB.out⟩
end Go.Proofs.YtibffdaljmmdoaaGreatDoor
