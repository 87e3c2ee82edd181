/- The walks of package parse, the first half: the reader's next token, its look ahead, references; the makers of package value. -/
import Derived.Test.YtpadlepdgnlgnaaGreatDoorObjAt
import Derived.Test.YtpadlepdgnlgnaaGreatDoorLexNext
import Derived.Test.YtpadlepdgnlgnaaGreatDoorTokLaws
import Derived.Deep.RegionHeld3
import Derived.Deep.DeepCutAuto
set_option linter.all false
namespace Go.Proofs.YtpadlepdgnlgnaaGreatDoor
open Go.RowKit Fo

/-- A token's value at place p. -/
def tkV (t : Tok) (p : Nat) : Value := .agg #[.int .i64 t.kind, .int .i64 p, .int .i64 (p + t.len : Nat), .int .i64 t.n, .string ⟨t.s.toArray⟩]

theorem lexnext_bad (s : ByteArray) (a : Nat) (k : Int) (h : (nextT (s.data.toList.drop a)).2 = .bad k) (ha : a ≤ s.size) (hs : s.size ≤ 140737488355327) (m : Int) (w : World) (hm : MaxW w m) :
    Calls Tryz.prog 24 #[.string s, .int .i64 a] w fun e w' => e = .returned (.tuple #[.agg #[.int .i64 0, .int .i64 0, .int .i64 0, .int .i64 0, .string ⟨#[]⟩], .int .i64 k]) ∧ Below w.heap.size w w' :=
  tok_bad h (next_in s a ha hs m w hm)
theorem lexnext_good (s : ByteArray) (a p : Nat) (t : Tok) (h : (nextT (s.data.toList.drop a)).2 = .good t) (hp : a + (nextT (s.data.toList.drop a)).1 = p) (ha : a ≤ s.size) (hs : s.size ≤ 140737488355327) (m : Int) (w : World) (hm : MaxW w m) :
    Calls Tryz.prog 24 #[.string s, .int .i64 a] w fun e w' => e = .returned (.tuple #[.agg #[.int .i64 t.kind, .int .i64 p, .int .i64 ((p + t.len : Nat) : Int), .int .i64 t.n, .string ⟨t.s.toArray⟩], .int .i64 0]) ∧ Below w.heap.size w w' := by
  have := tok_good h (next_in s a ha hs m w hm)
  rw [hp] at this; exact this

set_option maxRecDepth 100000 in
set_option maxHeartbeats 1000000 in
theorem rnext_good (r : Nat) (s : ByteArray) (a p : Nat) (t : Tok) (ha : a ≤ s.size) (hs : s.size ≤ 140737488355327) (m : Int) (w : World) (hm : MaxW w m) (hr : RdAt w r s a)
    (h : (nextT (s.data.toList.drop a)).2 = .good t) (hk : t.kind ≠ 0) (hp : a + (nextT (s.data.toList.drop a)).1 = p) :
    Calls Tryz.prog 37 #[.pointer (some ⟨r, 0, none⟩)] w fun e w' => e = .returned (tkV t p) ∧ RdAt w' r s (p + t.len) ∧ Bes r w w' := by
  obtain ⟨q, hq⟩ : ∃ q, p + t.len = q := ⟨_, rfl⟩
  have HN := Lib.hid (fun W hW => lexnext_good s a p t h hp ha hs m W hW)
  simp only [hq] at HN
  have hk1 : (t.kind == 0) = false := by simpa using hk
  have hc0 := hr.cell0
  have hc1 := hr.cell1
  have hf0 := hr.frozen 1
  have hlt := hr.lt
  have hA : ∀ W, Below w.heap.size w W → MaxW W m := fun W hb => hm.below hb
  have HA := Lib.hid hA
  clear h hp hA hk
  go_enter Tryz.func37, Tryz.ntmps37
  go_upto_region 1 with fail
  go_cut [3, 4] (fun s3 s4 wx => ∃ g : Nat, s3 = .pointer (some ⟨g, 0, none⟩) ∧ s4 = .int .i64 0 ∧ wx.cell? ⟨g, 0, none⟩ = some (.int .i64 t.kind) ∧ wx.cell? ⟨g, 1, none⟩ = some (.int .i64 p) ∧ wx.cell? ⟨g, 2, none⟩ = some (.int .i64 q) ∧ wx.cell? ⟨g, 3, none⟩ = some (.int .i64 t.n) ∧ wx.cell? ⟨g, 4, none⟩ = some (.string ⟨t.s.toArray⟩) ∧ w.heap.size < g ∧ Below (w.heap.size + 1) (w.alloc (.cells #[.int .i64 0, .int .i64 0, .int .i64 0, .int .i64 0, .string ⟨#[]⟩] 52)) wx)
  case first =>
    have ne1 : ¬ r = w.heap.size + 1 := by omega
    have ne2 : ¬ w.heap.size + 1 = r := by omega
    go_region_held3 (fun w' => w'.cell? ⟨r, 0, none⟩ = some (.string s) ∧ w'.cell? ⟨r, 1, none⟩ = some (.int .i64 a)) (go_keep) ((go_at_call 24; refine (HN.out _ (HA.out _ (by repeat' (first | (with_reducible exact Below.refl _ _) | (with_reducible refine Below.drew ?_) | (with_reducible refine belowDrewN ?_ _) | (with_reducible refine belowIter ?_ ?_ _ _) | (with_reducible refine Below.setCell ?_ ?_ _) | (with_reducible refine Below.alloc ?_ ?_ _) | (with_reducible refine Below.trans ?_ (Below.mono hb4 ?_)) | (with_reducible refine Below.trans ?_ (Below.mono hb3 ?_)) | (with_reducible refine Below.trans ?_ (Below.mono hb2 ?_)) | (with_reducible refine Below.trans ?_ (Below.mono hb1 ?_)) | (with_reducible refine Below.trans ?_ (Below.mono hbr ?_)) | (with_reducible refine Below.trans ?_ (Below.mono hb ?_)) | (simp; done) | (simp; omega) | omega)))).mono ?_; rintro e w1 ⟨rfl, hb⟩; obtain ⟨hc, hf⟩ := bcell hb; have hz := hb.size; simp at hz; have hbw : Below w.heap.size w w1 := (by repeat' (first | (with_reducible exact Below.refl _ _) | (with_reducible refine Below.drew ?_) | (with_reducible refine belowDrewN ?_ _) | (with_reducible refine belowIter ?_ ?_ _ _) | (with_reducible refine Below.setCell ?_ ?_ _) | (with_reducible refine Below.alloc ?_ ?_ _) | (with_reducible refine Below.trans ?_ (Below.mono hb4 ?_)) | (with_reducible refine Below.trans ?_ (Below.mono hb3 ?_)) | (with_reducible refine Below.trans ?_ (Below.mono hb2 ?_)) | (with_reducible refine Below.trans ?_ (Below.mono hb1 ?_)) | (with_reducible refine Below.trans ?_ (Below.mono hbr ?_)) | (with_reducible refine Below.trans ?_ (Below.mono hb ?_)) | (simp; done) | (simp; omega) | omega)); have k0 := (hbw.cell (p := ⟨r, 0, none⟩) hlt).trans hc0; have k1 := (hbw.cell (p := ⟨r, 1, none⟩) hlt).trans hc1))
    all_goals go_wp2_with fail
    all_goals go_meet
    all_goals first
      | exact ⟨w1.heap.size, rfl, rfl, by simp [go_sem], by simp [go_sem], by simp [go_sem], by simp [go_sem], by simp [go_sem], by omega, (by repeat' (first | (with_reducible exact Below.refl _ _) | (with_reducible refine Below.drew ?_) | (with_reducible refine belowDrewN ?_ _) | (with_reducible refine belowIter ?_ ?_ _ _) | (with_reducible refine Below.setCell ?_ ?_ _) | (with_reducible refine Below.alloc ?_ ?_ _) | (with_reducible refine Below.trans ?_ (Below.mono hb4 ?_)) | (with_reducible refine Below.trans ?_ (Below.mono hb3 ?_)) | (with_reducible refine Below.trans ?_ (Below.mono hb2 ?_)) | (with_reducible refine Below.trans ?_ (Below.mono hb1 ?_)) | (with_reducible refine Below.trans ?_ (Below.mono hbr ?_)) | (with_reducible refine Below.trans ?_ (Below.mono hb ?_)) | (show _ ≤ _; simp; done) | (show _ ≤ _; simp; omega) | (simp; done) | (simp; omega) | omega))⟩
      | exact ⟨w.heap.size + 1, rfl, rfl, by simp [go_sem, hc, hf], by simp [go_sem, hc, hf], by simp [go_sem, hc, hf], by simp [go_sem, hc, hf], by simp [go_sem, hc, hf], by omega, (by repeat' (first | (with_reducible exact Below.refl _ _) | (with_reducible refine Below.drew ?_) | (with_reducible refine belowDrewN ?_ _) | (with_reducible refine belowIter ?_ ?_ _ _) | (with_reducible refine Below.setCell ?_ ?_ _) | (with_reducible refine Below.alloc ?_ ?_ _) | (with_reducible refine Below.trans ?_ (Below.mono hb4 ?_)) | (with_reducible refine Below.trans ?_ (Below.mono hb3 ?_)) | (with_reducible refine Below.trans ?_ (Below.mono hb2 ?_)) | (with_reducible refine Below.trans ?_ (Below.mono hb1 ?_)) | (with_reducible refine Below.trans ?_ (Below.mono hbr ?_)) | (with_reducible refine Below.trans ?_ (Below.mono hb ?_)) | (show _ ≤ _; simp; done) | (show _ ≤ _; simp; omega) | (simp; done) | (simp; omega) | omega))⟩
  case rest =>
    obtain ⟨g, rfl, rfl, g0, g1, g2, g3, g4, hg, hb⟩ := hcut
    obtain ⟨hc, hf⟩ := bcellB hb
    have hrw : RdAt wc r s a := (hr.below (w' := w.alloc (.cells #[.int .i64 0, .int .i64 0, .int .i64 0, .int .i64 0, .string ⟨#[]⟩] 52)) (by repeat' (first | (with_reducible exact Below.refl _ _) | (with_reducible refine Below.drew ?_) | (with_reducible refine belowDrewN ?_ _) | (with_reducible refine belowIter ?_ ?_ _ _) | (with_reducible refine Below.setCell ?_ ?_ _) | (with_reducible refine Below.alloc ?_ ?_ _) | (with_reducible refine Below.trans ?_ (Below.mono hb4 ?_)) | (with_reducible refine Below.trans ?_ (Below.mono hb3 ?_)) | (with_reducible refine Below.trans ?_ (Below.mono hb2 ?_)) | (with_reducible refine Below.trans ?_ (Below.mono hb1 ?_)) | (with_reducible refine Below.trans ?_ (Below.mono hbr ?_)) | (with_reducible refine Below.trans ?_ (Below.mono hb ?_)) | (simp; done) | (simp; omega) | omega))).belowB hb (by omega)
    have k1 := hrw.cell1
    have kf := hrw.frozen
    have hgr : ¬ g = r := by omega
    have hrg : ¬ r = g := by omega
    have hrz : ¬ r = w.heap.size := by omega
    have hzr : ¬ w.heap.size = r := by omega
    go_wp2
    refine bodyPost_ret (v := tkV t p) (by simp [results, Tryz.results37, go_sem, hc, hf, tkV, hq]) rfl ⟨rfl, ?_, ?_⟩
    · rw [hq]
      have hW := hrw.set (b := q)
      exact hW.belowB (B := r + 1) (by repeat' (first | (with_reducible exact Below.refl _ _) | (with_reducible refine Below.setCell ?_ ?_ _) | (with_reducible refine Below.alloc ?_ ?_ _) | (show _ ≤ _; simp; done) | (show _ ≤ _; simp; omega) | omega)) (by omega)
    · exact (by repeat' (first | (with_reducible exact Bes.refl _ _) | (with_reducible refine Bes.drew ?_) | (with_reducible refine Bes.drewN ?_ _) | (with_reducible refine Bes.alloc ?_ _) | (with_reducible refine Bes.setCell ?_ _ _) | (with_reducible refine Bes.setCell_new ?_ ?_ _) | (with_reducible refine Bes.belowB ?_ hb5 ?_) | (with_reducible refine Bes.belowB ?_ hb4 ?_) | (with_reducible refine Bes.belowB ?_ hb3 ?_) | (with_reducible refine Bes.belowB ?_ hb2 ?_) | (with_reducible refine Bes.belowB ?_ hb1 ?_) | (with_reducible refine Bes.belowB ?_ hbr ?_) | (with_reducible refine Bes.belowB ?_ hb ?_) | (with_reducible refine Bes.trans ?_ hs5) | (with_reducible refine Bes.trans ?_ hs4) | (with_reducible refine Bes.trans ?_ hs3) | (with_reducible refine Bes.trans ?_ hs2) | (with_reducible refine Bes.trans ?_ hs1) | (show _ ≤ _; simp; done) | (show _ ≤ _; simp; omega) | omega))
set_option maxRecDepth 100000 in
set_option maxHeartbeats 1000000 in
theorem rnext_lexbad (r : Nat) (s : ByteArray) (a : Nat) (k : Int) (ha : a ≤ s.size) (hs : s.size ≤ 140737488355327) (m : Int) (w : World) (hm : MaxW w m) (hr : RdAt w r s a)
    (h : (nextT (s.data.toList.drop a)).2 = .bad k) :
    Calls Tryz.prog 37 #[.pointer (some ⟨r, 0, none⟩)] w fun e w' => e = .panicked [{ v := .iface 84 (.int .i64 k), recovered := false }] ∧ Bes r w w' := by
  have HN := Lib.hid (fun W hW => lexnext_bad s a k h ha hs m W hW)
  have hk1 : (k != 0) = true := by have := nextT_bad h; simp; omega
  have hc0 := hr.cell0
  have hc1 := hr.cell1
  have hf0 := hr.frozen 1
  have hlt := hr.lt
  have hA : ∀ W, Below w.heap.size w W → MaxW W m := fun W hb => hm.below hb
  have HA := Lib.hid hA
  clear h hA
  go_enter Tryz.func37, Tryz.ntmps37
  go_upto_region 1 with fail
  go_cut [3, 4] (fun s3 s4 wx => ∃ g : Nat, s3 = .pointer (some ⟨g, 0, none⟩) ∧ s4 = .int .i64 k ∧ Below (w.heap.size + 1) (w.alloc (.cells #[.int .i64 0, .int .i64 0, .int .i64 0, .int .i64 0, .string ⟨#[]⟩] 52)) wx)
  case first =>
    have ne1 : ¬ r = w.heap.size + 1 := by omega
    have ne2 : ¬ w.heap.size + 1 = r := by omega
    go_region_held3 (fun w' => w'.cell? ⟨r, 0, none⟩ = some (.string s) ∧ w'.cell? ⟨r, 1, none⟩ = some (.int .i64 a)) (go_keep) ((go_at_call 24; refine (HN.out _ (HA.out _ (by repeat' (first | (with_reducible exact Below.refl _ _) | (with_reducible refine Below.drew ?_) | (with_reducible refine belowDrewN ?_ _) | (with_reducible refine belowIter ?_ ?_ _ _) | (with_reducible refine Below.setCell ?_ ?_ _) | (with_reducible refine Below.alloc ?_ ?_ _) | (with_reducible refine Below.trans ?_ (Below.mono hb4 ?_)) | (with_reducible refine Below.trans ?_ (Below.mono hb3 ?_)) | (with_reducible refine Below.trans ?_ (Below.mono hb2 ?_)) | (with_reducible refine Below.trans ?_ (Below.mono hb1 ?_)) | (with_reducible refine Below.trans ?_ (Below.mono hbr ?_)) | (with_reducible refine Below.trans ?_ (Below.mono hb ?_)) | (simp; done) | (simp; omega) | omega)))).mono ?_; rintro e w1 ⟨rfl, hb⟩; obtain ⟨hc, hf⟩ := bcell hb; have hz := hb.size; simp at hz; have hbw : Below w.heap.size w w1 := (by repeat' (first | (with_reducible exact Below.refl _ _) | (with_reducible refine Below.drew ?_) | (with_reducible refine belowDrewN ?_ _) | (with_reducible refine belowIter ?_ ?_ _ _) | (with_reducible refine Below.setCell ?_ ?_ _) | (with_reducible refine Below.alloc ?_ ?_ _) | (with_reducible refine Below.trans ?_ (Below.mono hb4 ?_)) | (with_reducible refine Below.trans ?_ (Below.mono hb3 ?_)) | (with_reducible refine Below.trans ?_ (Below.mono hb2 ?_)) | (with_reducible refine Below.trans ?_ (Below.mono hb1 ?_)) | (with_reducible refine Below.trans ?_ (Below.mono hbr ?_)) | (with_reducible refine Below.trans ?_ (Below.mono hb ?_)) | (simp; done) | (simp; omega) | omega)); have k0 := (hbw.cell (p := ⟨r, 0, none⟩) hlt).trans hc0; have k1 := (hbw.cell (p := ⟨r, 1, none⟩) hlt).trans hc1))
    all_goals go_wp2_with fail
    all_goals go_meet
    all_goals first
      | exact ⟨w1.heap.size, rfl, rfl, (by repeat' (first | (with_reducible exact Below.refl _ _) | (with_reducible refine Below.drew ?_) | (with_reducible refine belowDrewN ?_ _) | (with_reducible refine belowIter ?_ ?_ _ _) | (with_reducible refine Below.setCell ?_ ?_ _) | (with_reducible refine Below.alloc ?_ ?_ _) | (with_reducible refine Below.trans ?_ (Below.mono hb4 ?_)) | (with_reducible refine Below.trans ?_ (Below.mono hb3 ?_)) | (with_reducible refine Below.trans ?_ (Below.mono hb2 ?_)) | (with_reducible refine Below.trans ?_ (Below.mono hb1 ?_)) | (with_reducible refine Below.trans ?_ (Below.mono hbr ?_)) | (with_reducible refine Below.trans ?_ (Below.mono hb ?_)) | (show _ ≤ _; simp; done) | (show _ ≤ _; simp; omega) | (simp; done) | (simp; omega) | omega))⟩
      | exact ⟨w.heap.size + 1, rfl, rfl, (by repeat' (first | (with_reducible exact Below.refl _ _) | (with_reducible refine Below.drew ?_) | (with_reducible refine belowDrewN ?_ _) | (with_reducible refine belowIter ?_ ?_ _ _) | (with_reducible refine Below.setCell ?_ ?_ _) | (with_reducible refine Below.alloc ?_ ?_ _) | (with_reducible refine Below.trans ?_ (Below.mono hb4 ?_)) | (with_reducible refine Below.trans ?_ (Below.mono hb3 ?_)) | (with_reducible refine Below.trans ?_ (Below.mono hb2 ?_)) | (with_reducible refine Below.trans ?_ (Below.mono hb1 ?_)) | (with_reducible refine Below.trans ?_ (Below.mono hbr ?_)) | (with_reducible refine Below.trans ?_ (Below.mono hb ?_)) | (show _ ≤ _; simp; done) | (show _ ≤ _; simp; omega) | (simp; done) | (simp; omega) | omega))⟩
  case rest =>
    obtain ⟨g, rfl, rfl, hb⟩ := hcut
    go_wp2
    exact ⟨rfl, rfl, (by repeat' (first | (with_reducible exact Bes.refl _ _) | (with_reducible refine Bes.drew ?_) | (with_reducible refine Bes.drewN ?_ _) | (with_reducible refine Bes.alloc ?_ _) | (with_reducible refine Bes.setCell ?_ _ _) | (with_reducible refine Bes.setCell_new ?_ ?_ _) | (with_reducible refine Bes.belowB ?_ hb5 ?_) | (with_reducible refine Bes.belowB ?_ hb4 ?_) | (with_reducible refine Bes.belowB ?_ hb3 ?_) | (with_reducible refine Bes.belowB ?_ hb2 ?_) | (with_reducible refine Bes.belowB ?_ hb1 ?_) | (with_reducible refine Bes.belowB ?_ hbr ?_) | (with_reducible refine Bes.belowB ?_ hb ?_) | (with_reducible refine Bes.trans ?_ hs5) | (with_reducible refine Bes.trans ?_ hs4) | (with_reducible refine Bes.trans ?_ hs3) | (with_reducible refine Bes.trans ?_ hs2) | (with_reducible refine Bes.trans ?_ hs1) | (show _ ≤ _; simp; done) | (show _ ≤ _; simp; omega) | omega))⟩
set_option maxRecDepth 100000 in
set_option maxHeartbeats 1000000 in
theorem rnext_end (r : Nat) (s : ByteArray) (a p : Nat) (t : Tok) (ha : a ≤ s.size) (hs : s.size ≤ 140737488355327) (m : Int) (w : World) (hm : MaxW w m) (hr : RdAt w r s a)
    (h : (nextT (s.data.toList.drop a)).2 = .good t) (hk : t.kind = 0) (hp : a + (nextT (s.data.toList.drop a)).1 = p) :
    Calls Tryz.prog 37 #[.pointer (some ⟨r, 0, none⟩)] w fun e w' => e = .panicked [{ v := .iface 84 (.int .i64 4), recovered := false }] ∧ Bes r w w' := by
  obtain ⟨q, hq⟩ : ∃ q, p + t.len = q := ⟨_, rfl⟩
  have HN := Lib.hid (fun W hW => lexnext_good s a p t h hp ha hs m W hW)
  simp only [hq] at HN
  have hk1 : (t.kind == 0) = true := by simpa using hk
  have hc0 := hr.cell0
  have hc1 := hr.cell1
  have hf0 := hr.frozen 1
  have hlt := hr.lt
  have hA : ∀ W, Below w.heap.size w W → MaxW W m := fun W hb => hm.below hb
  have HA := Lib.hid hA
  clear h hp hA hk
  go_enter Tryz.func37, Tryz.ntmps37
  go_upto_region 1 with fail
  go_cut [3, 4] (fun s3 s4 wx => ∃ g : Nat, s3 = .pointer (some ⟨g, 0, none⟩) ∧ s4 = .int .i64 0 ∧ wx.cell? ⟨g, 0, none⟩ = some (.int .i64 t.kind) ∧ wx.cell? ⟨g, 1, none⟩ = some (.int .i64 p) ∧ wx.cell? ⟨g, 2, none⟩ = some (.int .i64 q) ∧ wx.cell? ⟨g, 3, none⟩ = some (.int .i64 t.n) ∧ wx.cell? ⟨g, 4, none⟩ = some (.string ⟨t.s.toArray⟩) ∧ w.heap.size < g ∧ Below (w.heap.size + 1) (w.alloc (.cells #[.int .i64 0, .int .i64 0, .int .i64 0, .int .i64 0, .string ⟨#[]⟩] 52)) wx)
  case first =>
    have ne1 : ¬ r = w.heap.size + 1 := by omega
    have ne2 : ¬ w.heap.size + 1 = r := by omega
    go_region_held3 (fun w' => w'.cell? ⟨r, 0, none⟩ = some (.string s) ∧ w'.cell? ⟨r, 1, none⟩ = some (.int .i64 a)) (go_keep) ((go_at_call 24; refine (HN.out _ (HA.out _ (by repeat' (first | (with_reducible exact Below.refl _ _) | (with_reducible refine Below.drew ?_) | (with_reducible refine belowDrewN ?_ _) | (with_reducible refine belowIter ?_ ?_ _ _) | (with_reducible refine Below.setCell ?_ ?_ _) | (with_reducible refine Below.alloc ?_ ?_ _) | (with_reducible refine Below.trans ?_ (Below.mono hb4 ?_)) | (with_reducible refine Below.trans ?_ (Below.mono hb3 ?_)) | (with_reducible refine Below.trans ?_ (Below.mono hb2 ?_)) | (with_reducible refine Below.trans ?_ (Below.mono hb1 ?_)) | (with_reducible refine Below.trans ?_ (Below.mono hbr ?_)) | (with_reducible refine Below.trans ?_ (Below.mono hb ?_)) | (simp; done) | (simp; omega) | omega)))).mono ?_; rintro e w1 ⟨rfl, hb⟩; obtain ⟨hc, hf⟩ := bcell hb; have hz := hb.size; simp at hz; have hbw : Below w.heap.size w w1 := (by repeat' (first | (with_reducible exact Below.refl _ _) | (with_reducible refine Below.drew ?_) | (with_reducible refine belowDrewN ?_ _) | (with_reducible refine belowIter ?_ ?_ _ _) | (with_reducible refine Below.setCell ?_ ?_ _) | (with_reducible refine Below.alloc ?_ ?_ _) | (with_reducible refine Below.trans ?_ (Below.mono hb4 ?_)) | (with_reducible refine Below.trans ?_ (Below.mono hb3 ?_)) | (with_reducible refine Below.trans ?_ (Below.mono hb2 ?_)) | (with_reducible refine Below.trans ?_ (Below.mono hb1 ?_)) | (with_reducible refine Below.trans ?_ (Below.mono hbr ?_)) | (with_reducible refine Below.trans ?_ (Below.mono hb ?_)) | (simp; done) | (simp; omega) | omega)); have k0 := (hbw.cell (p := ⟨r, 0, none⟩) hlt).trans hc0; have k1 := (hbw.cell (p := ⟨r, 1, none⟩) hlt).trans hc1))
    all_goals go_wp2_with fail
    all_goals go_meet
    all_goals first
      | exact ⟨w1.heap.size, rfl, rfl, by simp [go_sem], by simp [go_sem], by simp [go_sem], by simp [go_sem], by simp [go_sem], by omega, (by repeat' (first | (with_reducible exact Below.refl _ _) | (with_reducible refine Below.drew ?_) | (with_reducible refine belowDrewN ?_ _) | (with_reducible refine belowIter ?_ ?_ _ _) | (with_reducible refine Below.setCell ?_ ?_ _) | (with_reducible refine Below.alloc ?_ ?_ _) | (with_reducible refine Below.trans ?_ (Below.mono hb4 ?_)) | (with_reducible refine Below.trans ?_ (Below.mono hb3 ?_)) | (with_reducible refine Below.trans ?_ (Below.mono hb2 ?_)) | (with_reducible refine Below.trans ?_ (Below.mono hb1 ?_)) | (with_reducible refine Below.trans ?_ (Below.mono hbr ?_)) | (with_reducible refine Below.trans ?_ (Below.mono hb ?_)) | (show _ ≤ _; simp; done) | (show _ ≤ _; simp; omega) | (simp; done) | (simp; omega) | omega))⟩
      | exact ⟨w.heap.size + 1, rfl, rfl, by simp [go_sem, hc, hf], by simp [go_sem, hc, hf], by simp [go_sem, hc, hf], by simp [go_sem, hc, hf], by simp [go_sem, hc, hf], by omega, (by repeat' (first | (with_reducible exact Below.refl _ _) | (with_reducible refine Below.drew ?_) | (with_reducible refine belowDrewN ?_ _) | (with_reducible refine belowIter ?_ ?_ _ _) | (with_reducible refine Below.setCell ?_ ?_ _) | (with_reducible refine Below.alloc ?_ ?_ _) | (with_reducible refine Below.trans ?_ (Below.mono hb4 ?_)) | (with_reducible refine Below.trans ?_ (Below.mono hb3 ?_)) | (with_reducible refine Below.trans ?_ (Below.mono hb2 ?_)) | (with_reducible refine Below.trans ?_ (Below.mono hb1 ?_)) | (with_reducible refine Below.trans ?_ (Below.mono hbr ?_)) | (with_reducible refine Below.trans ?_ (Below.mono hb ?_)) | (show _ ≤ _; simp; done) | (show _ ≤ _; simp; omega) | (simp; done) | (simp; omega) | omega))⟩
  case rest =>
    obtain ⟨g, rfl, rfl, g0, g1, g2, g3, g4, hg, hb⟩ := hcut
    go_wp2
    exact ⟨rfl, rfl, (by repeat' (first | (with_reducible exact Bes.refl _ _) | (with_reducible refine Bes.drew ?_) | (with_reducible refine Bes.drewN ?_ _) | (with_reducible refine Bes.alloc ?_ _) | (with_reducible refine Bes.setCell ?_ _ _) | (with_reducible refine Bes.setCell_new ?_ ?_ _) | (with_reducible refine Bes.belowB ?_ hb5 ?_) | (with_reducible refine Bes.belowB ?_ hb4 ?_) | (with_reducible refine Bes.belowB ?_ hb3 ?_) | (with_reducible refine Bes.belowB ?_ hb2 ?_) | (with_reducible refine Bes.belowB ?_ hb1 ?_) | (with_reducible refine Bes.belowB ?_ hbr ?_) | (with_reducible refine Bes.belowB ?_ hb ?_) | (with_reducible refine Bes.trans ?_ hs5) | (with_reducible refine Bes.trans ?_ hs4) | (with_reducible refine Bes.trans ?_ hs3) | (with_reducible refine Bes.trans ?_ hs2) | (with_reducible refine Bes.trans ?_ hs1) | (show _ ≤ _; simp; done) | (show _ ≤ _; simp; omega) | omega))⟩
theorem rnext_bad (r : Nat) (s : ByteArray) (a : Nat) (k : Int) (ha : a ≤ s.size) (hs : s.size ≤ 140737488355327) (m : Int) (w : World) (hm : MaxW w m) (hr : RdAt w r s a)
    (h : nextS (s.data.toList.drop a) = .bad k) :
    Calls Tryz.prog 37 #[.pointer (some ⟨r, 0, none⟩)] w fun e w' => e = .panicked [{ v := .iface 84 (.int .i64 k), recovered := false }] ∧ Bes r w w' := by
  rcases nextS_bad h with h2 | ⟨h1, h2⟩
  · exact rnext_lexbad r s a k ha hs m w hm hr h2
  · subst h1; exact rnext_end r s a _ _ ha hs m w hm hr h2 rfl rfl
end Go.Proofs.YtpadlepdgnlgnaaGreatDoor
