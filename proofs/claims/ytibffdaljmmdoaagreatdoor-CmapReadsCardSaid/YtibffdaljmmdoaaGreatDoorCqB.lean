/- The reference's reader of a mapping: its next token. -/
import Derived.Test.YtibffdaljmmdoaaGreatDoorCqA
import Derived.Test.YtibffdaljmmdoaaGreatDoorGCm
set_option linter.all false
namespace Go.Proofs.YtibffdaljmmdoaaGreatDoor
open Go.RowKit Fo Go.Maps

theorem RS.belowB {B C r a : Nat} {w w' : World} {s : ByteArray} {σ : CS} (h : RS B w r s a σ) (hb : Below C w w') (hC : w.heap.size ≤ C) : RS B w' r s a σ := h.below (hb.mono hC)
/-- A token's box. -/
def TokB (w : World) (b : Nat) : Prop := ∃ cs fr, w.heap[b]? = some (.cells cs 59 fr)
theorem TokB.new (w : World) (cs : Array Value) (fr : Nat × Nat) : TokB (w.alloc (.cells cs 59 fr)) w.heap.size := ⟨_, _, heap_alloc_new _ _⟩
theorem TokB.kept {w w' : World} {b : Nat} (h : TokB w b) (e : w'.heap[b]? = w.heap[b]?) : TokB w' b := by unfold TokB at *; rw [e]; exact h
theorem TokB.lt {w : World} {b : Nat} (h : TokB w b) : b < w.heap.size := by obtain ⟨cs, fr, h⟩ := h; exact (Array.getElem?_eq_some_iff.1 h).1
theorem TokB.fq {B b : Nat} {w w' : World} (h : TokB w b) (hf : Fq B w w') : TokB w' b := by
  obtain ⟨cs, fr, h⟩ := h
  exact ⟨cs, fr, hf.tok h (by decide) (by decide)⟩
theorem TokB.ne {b r : Nat} {w : World} {s : ByteArray} {a z t : Nat} {v : Value} {e : Int} (h : TokB w b) (hr : RB w r s a z v t e) : b ≠ r := by
  rintro rfl
  obtain ⟨cs, fr, h⟩ := h
  unfold RB at hr; rw [h] at hr; simp at hr
/-- A token's box takes a token. -/
def toks (w : World) (b : Nat) (v0 v1 v2 v3 v4 : Value) : World := ((((w.setCell ⟨b, 0, none⟩ v0).setCell ⟨b, 1, none⟩ v1).setCell ⟨b, 2, none⟩ v2).setCell ⟨b, 3, none⟩ v3).setCell ⟨b, 4, none⟩ v4
theorem toks_one (w : World) (b : Nat) (v0 v1 v2 v3 v4 : Value) : OneB b w (toks w b v0 v1 v2 v3 v4) := by
  unfold toks
  exact ((((OneB.set _ _ _ _).more _ _).more _ _).more _ _).more _ _
theorem RS.toks {B r a b : Nat} {w : World} {s : ByteArray} {σ : CS} (h : RS B w r s a σ) (hb : TokB w b) (v0 v1 v2 v3 v4 : Value) : RS B (toks w b v0 v1 v2 v3 v4) r s a σ := by
  obtain ⟨cs, fr, hb⟩ := hb
  exact h.other (toks_one _ _ _ _ _ _ _) hb (by decide) (by decide)
theorem RE.toks {B r b : Nat} {w : World} {k : Int} (h : RE B w r k) (hb : TokB w b) (v0 v1 v2 v3 v4 : Value) : RE B (toks w b v0 v1 v2 v3 v4) r k := by
  obtain ⟨cs, fr, hb⟩ := hb
  exact h.other (toks_one _ _ _ _ _ _ _) hb (by decide)
theorem Fq.toks {B b : Nat} {a w : World} (h : Fq B a w) (hb : a.heap.size ≤ b) (v0 v1 v2 v3 v4 : Value) : Fq B a (toks w b v0 v1 v2 v3 v4) :=
  ((((h.setCell_new (p := ⟨b, 0, none⟩) hb v0).setCell_new (p := ⟨b, 1, none⟩) hb v1).setCell_new (p := ⟨b, 2, none⟩) hb v2).setCell_new (p := ⟨b, 3, none⟩) hb v3).setCell_new (p := ⟨b, 4, none⟩) hb v4
/-- The reader's place turns. -/
theorem RS.move {B r a b : Nat} {w : World} {s : ByteArray} {σ : CS} (h : RS B w r s a σ) : RS B (w.setCell ⟨r, 1, none⟩ (.int .i64 b)) r s b σ ∧ Fq B w (w.setCell ⟨r, 1, none⟩ (.int .i64 b)) := by
  obtain ⟨v, h1, h2⟩ := h.held
  exact ⟨⟨h.base, h.sorted, h.many, h.told, v, h1.set1, mown_fq h2 (OneB.set _ _ _ _) h1.ne_map⟩, h1.frame h.base (.set _ _ _ _)⟩
set_option maxRecDepth 100000 in
set_option maxHeartbeats 1000000 in
theorem rnx_good (B r : Nat) (s : ByteArray) (a p : Nat) (σ : CS) (i : Bool) (t : Tok) (ha : a ≤ s.size) (hs : s.size ≤ 1000000000) (w : World) (hS : RS B w r s a σ)
    (h : (nextT (s.data.toList.drop a)).2 = .good t) (hp : a + (nextT (s.data.toList.drop a)).1 = p) (hi : i = true → t.kind ≠ 0) :
    Calls Tryz.prog 27 #[.pointer (some ⟨r, 0, none⟩), .bool i] w fun e w' => e = .returned (ctkV t p (p + t.len)) ∧ RS B w' r s (p + t.len) σ ∧ Fq B w w' := by
  obtain ⟨q, hq⟩ : ∃ q, p + t.len = q := ⟨_, rfl⟩
  have HN := Lib.hid (fun W => rnext_tok s a p t h hp ha (by omega) W)
  simp only [hq] at HN
  have hi2 : i = false ∨ (i = true ∧ (t.kind == 0) = false) := by
    cases i
    · exact .inl rfl
    · exact .inr ⟨rfl, by simpa using hi rfl⟩
  clear h hp hi
  obtain ⟨v, hR, hown⟩ := hS.held
  obtain ⟨hc0, hc1, _, _, _, _, hf0⟩ := hR.six
  have hlt := hR.lt
  have hbase := hS.base
  go_enter Tryz.func27, Tryz.ntmps27
  go_upto_region 1 with fail
  go_cut [5, 6] (fun s3 s4 wx => ∃ g : Nat, s3 = .pointer (some ⟨g, 0, none⟩) ∧ s4 = .int .i64 0 ∧ wx.cell? ⟨g, 0, none⟩ = some (.int .i64 t.kind) ∧ wx.cell? ⟨g, 1, none⟩ = some (.int .i64 p) ∧ wx.cell? ⟨g, 2, none⟩ = some (.int .i64 q) ∧ wx.cell? ⟨g, 3, none⟩ = some (.int .i64 t.n) ∧ wx.cell? ⟨g, 4, none⟩ = some (.string ⟨t.s.toArray⟩) ∧ w.heap.size < g ∧ Below (w.heap.size + 1) (w.alloc (.cells #[.int .i64 0, .int .i64 0, .int .i64 0, .int .i64 0, .string ⟨#[]⟩] 59)) wx)
  case first =>
    have ne1 : ¬ r = w.heap.size + 1 := by omega
    have ne2 : ¬ w.heap.size + 1 = r := by omega
    go_region_held3 (fun w' => w'.cell? ⟨r, 0, none⟩ = some (.string s) ∧ w'.cell? ⟨r, 1, none⟩ = some (.int .i64 a)) (go_keep) ((go_at_call 50; refine (HN.out _).mono ?_; rintro e w1 ⟨rfl, hb⟩; obtain ⟨hc, hf⟩ := bcell hb; have hz := hb.size; simp at hz; have hbw : Below w.heap.size w w1 := (by repeat' (first | (with_reducible first | exact Below.refl _ _ | refine Below.drew ?_ | refine belowDrewN ?_ _ | refine belowIter ?_ ?_ _ _ | refine Below.setCell ?_ ?_ _ | refine Below.alloc ?_ ?_ _ | refine bT hb4 ?_ ?_ | refine bT hb3 ?_ ?_ | refine bT hb2 ?_ ?_ | refine bT hb1 ?_ ?_ | refine bT hbr ?_ ?_ | refine bT hb ?_ ?_) | (simp; done) | (simp; omega) | omega)); have k0 := (hbw.cell (p := ⟨r, 0, none⟩) hlt).trans hc0; have k1 := (hbw.cell (p := ⟨r, 1, none⟩) hlt).trans hc1))
    all_goals go_wp2_with fail
    all_goals go_meet
    all_goals first
      | exact ⟨w1.heap.size, rfl, rfl, by simp [go_sem], by simp [go_sem], by simp [go_sem], by simp [go_sem], by simp [go_sem], by omega, (by repeat' (first | (with_reducible first | exact Below.refl _ _ | refine Below.drew ?_ | refine belowDrewN ?_ _ | refine belowIter ?_ ?_ _ _ | refine Below.setCell ?_ ?_ _ | refine Below.alloc ?_ ?_ _ | refine bT hb4 ?_ ?_ | refine bT hb3 ?_ ?_ | refine bT hb2 ?_ ?_ | refine bT hb1 ?_ ?_ | refine bT hbr ?_ ?_ | refine bT hb ?_ ?_) | (show _ ≤ _; simp; done) | (show _ ≤ _; simp; omega) | (simp; done) | (simp; omega) | omega))⟩
      | exact ⟨w.heap.size + 1, rfl, rfl, by simp [go_sem, hc, hf], by simp [go_sem, hc, hf], by simp [go_sem, hc, hf], by simp [go_sem, hc, hf], by simp [go_sem, hc, hf], by omega, (by repeat' (first | (with_reducible first | exact Below.refl _ _ | refine Below.drew ?_ | refine belowDrewN ?_ _ | refine belowIter ?_ ?_ _ _ | refine Below.setCell ?_ ?_ _ | refine Below.alloc ?_ ?_ _ | refine bT hb4 ?_ ?_ | refine bT hb3 ?_ ?_ | refine bT hb2 ?_ ?_ | refine bT hb1 ?_ ?_ | refine bT hbr ?_ ?_ | refine bT hb ?_ ?_) | (show _ ≤ _; simp; done) | (show _ ≤ _; simp; omega) | (simp; done) | (simp; omega) | omega))⟩
  case rest =>
    obtain ⟨g, rfl, rfl, g0, g1, g2, g3, g4, hg, hb⟩ := hcut
    obtain ⟨hc, hf⟩ := bcellB hb
    have hSW := Lib.hid ((hS.below (w' := (w.alloc (.cells #[.int .i64 0, .int .i64 0, .int .i64 0, .int .i64 0, .string ⟨#[]⟩] 59))) (by repeat' (first | (with_reducible first | exact Below.refl _ _ | refine Below.drew ?_ | refine belowDrewN ?_ _ | refine belowIter ?_ ?_ _ _ | refine Below.setCell ?_ ?_ _ | refine Below.alloc ?_ ?_ _ | refine bT hb4 ?_ ?_ | refine bT hb3 ?_ ?_ | refine bT hb2 ?_ ?_ | refine bT hb1 ?_ ?_ | refine bT hbr ?_ ?_ | refine bT hb ?_ ?_) | (simp; done) | (simp; omega) | omega))).belowB hb (by simp))
    have hFW := Lib.hid ((Fq.refl B w).belowB (C := w.heap.size) (show Below w.heap.size w wc from (by repeat' (first | (with_reducible first | exact Below.refl _ _ | refine Below.drew ?_ | refine belowDrewN ?_ _ | refine belowIter ?_ ?_ _ _ | refine Below.setCell ?_ ?_ _ | refine Below.alloc ?_ ?_ _ | refine bT hb4 ?_ ?_ | refine bT hb3 ?_ ?_ | refine bT hb2 ?_ ?_ | refine bT hb1 ?_ ?_ | refine bT hbr ?_ ?_ | refine bT hb ?_ ?_) | (simp; done) | (simp; omega) | omega))) (Nat.le_refl _))
    obtain ⟨_, hRc, _⟩ := hSW.out.held
    obtain ⟨_, k1, _, _, _, k5, kf⟩ := hRc.six
    have hgr : ¬ g = r := by omega
    have hrg : ¬ r = g := by omega
    have hrz : ¬ r = w.heap.size := by omega
    have hzr : ¬ w.heap.size = r := by omega
    have HQ := Lib.hid (hSW.out.move (b := q))
    have HT := Lib.hid ((TokB.new w _ _).kept (w' := wc.setCell ⟨r, 1, none⟩ (.int .i64 q)) ((Below.heap_setCell _ _ _ _ (by simpa using hzr)).trans (hb.block _ (by omega))))
    rcases hi2 with rfl | ⟨rfl, kk⟩
    all_goals
      go_wp2
      refine bodyPost_ret (v := ctkV t p q) (by simp [results, Tryz.results27, go_sem, hc, hf, ctkV]) rfl ⟨by rw [hq], ?_, ?_⟩
      · rw [hq]
        exact HQ.out.1.toks HT.out _ _ _ _ _
      · exact (hFW.out.trans HQ.out.2).toks (Nat.le_refl _) _ _ _ _ _
/-- A reader's error stays. -/
def RnBad (B r : Nat) (w : World) (k : Int) (e : Ending) (w' : World) : Prop :=
  ∃ (k0 k1 k2 k3 : Int) (s4 : ByteArray), e = .returned (.agg #[.int .i64 k0, .int .i64 k1, .int .i64 k2, .int .i64 k3, .string s4]) ∧ RE B w' r k ∧ Fq B w w'
set_option maxRecDepth 100000 in
set_option maxHeartbeats 1000000 in
theorem rnx_bad (B r : Nat) (s : ByteArray) (a : Nat) (σ : CS) (i : Bool) (k : Int) (ha : a ≤ s.size) (hs : s.size ≤ 1000000000) (w : World) (hS : RS B w r s a σ)
    (h : (nextT (s.data.toList.drop a)).2 = .bad k) (hk : 2 ≤ k) :
    Calls Tryz.prog 27 #[.pointer (some ⟨r, 0, none⟩), .bool i] w (RnBad B r w k) := by
  have HN := Lib.hid (fun W => rnext_err s a k h ha (by omega) W)
  have hk2 : (k != 0) = true := by simp; omega
  have hk0 : (k == 0) = false := by simp; omega
  have HK := Lib.hid (show k ≠ 0 by omega)
  clear h hk
  obtain ⟨v, hR, hown⟩ := hS.held
  obtain ⟨hc0, hc1, _, _, _, _, hf0⟩ := hR.six
  have hlt := hR.lt
  have hbase := hS.base
  go_enter Tryz.func27, Tryz.ntmps27
  go_upto_region 1 with fail
  go_cut [5, 6] (fun s3 s4 wx => ∃ g : Nat, s3 = .pointer (some ⟨g, 0, none⟩) ∧ s4 = .int .i64 k ∧ wx.cell? ⟨g, 0, none⟩ = some (.int .i64 0) ∧ wx.cell? ⟨g, 1, none⟩ = some (.int .i64 0) ∧ wx.cell? ⟨g, 2, none⟩ = some (.int .i64 0) ∧ wx.cell? ⟨g, 3, none⟩ = some (.int .i64 0) ∧ wx.cell? ⟨g, 4, none⟩ = some (.string ⟨#[]⟩) ∧ w.heap.size < g ∧ Below (w.heap.size + 1) (w.alloc (.cells #[.int .i64 0, .int .i64 0, .int .i64 0, .int .i64 0, .string ⟨#[]⟩] 59)) wx)
  case first =>
    have ne1 : ¬ r = w.heap.size + 1 := by omega
    have ne2 : ¬ w.heap.size + 1 = r := by omega
    go_region_held3 (fun w' => w'.cell? ⟨r, 0, none⟩ = some (.string s) ∧ w'.cell? ⟨r, 1, none⟩ = some (.int .i64 a)) (go_keep) ((go_at_call 50; refine (HN.out _).mono ?_; rintro e w1 ⟨rfl, hb⟩; obtain ⟨hc, hf⟩ := bcell hb; have hz := hb.size; simp at hz; have hbw : Below w.heap.size w w1 := (by repeat' (first | (with_reducible first | exact Below.refl _ _ | refine Below.drew ?_ | refine belowDrewN ?_ _ | refine belowIter ?_ ?_ _ _ | refine Below.setCell ?_ ?_ _ | refine Below.alloc ?_ ?_ _ | refine bT hb4 ?_ ?_ | refine bT hb3 ?_ ?_ | refine bT hb2 ?_ ?_ | refine bT hb1 ?_ ?_ | refine bT hbr ?_ ?_ | refine bT hb ?_ ?_) | (simp; done) | (simp; omega) | omega)); have k0 := (hbw.cell (p := ⟨r, 0, none⟩) hlt).trans hc0; have k1 := (hbw.cell (p := ⟨r, 1, none⟩) hlt).trans hc1))
    all_goals go_wp2_with fail
    all_goals go_meet
    all_goals first
      | exact ⟨w1.heap.size, rfl, rfl, by simp [go_sem], by simp [go_sem], by simp [go_sem], by simp [go_sem], by simp [go_sem], by omega, (by repeat' (first | (with_reducible first | exact Below.refl _ _ | refine Below.drew ?_ | refine belowDrewN ?_ _ | refine belowIter ?_ ?_ _ _ | refine Below.setCell ?_ ?_ _ | refine Below.alloc ?_ ?_ _ | refine bT hb4 ?_ ?_ | refine bT hb3 ?_ ?_ | refine bT hb2 ?_ ?_ | refine bT hb1 ?_ ?_ | refine bT hbr ?_ ?_ | refine bT hb ?_ ?_) | (show _ ≤ _; simp; done) | (show _ ≤ _; simp; omega) | (simp; done) | (simp; omega) | omega))⟩
      | exact ⟨w.heap.size + 1, rfl, rfl, by simp [go_sem, hc, hf], by simp [go_sem, hc, hf], by simp [go_sem, hc, hf], by simp [go_sem, hc, hf], by simp [go_sem, hc, hf], by omega, (by repeat' (first | (with_reducible first | exact Below.refl _ _ | refine Below.drew ?_ | refine belowDrewN ?_ _ | refine belowIter ?_ ?_ _ _ | refine Below.setCell ?_ ?_ _ | refine Below.alloc ?_ ?_ _ | refine bT hb4 ?_ ?_ | refine bT hb3 ?_ ?_ | refine bT hb2 ?_ ?_ | refine bT hb1 ?_ ?_ | refine bT hbr ?_ ?_ | refine bT hb ?_ ?_) | (show _ ≤ _; simp; done) | (show _ ≤ _; simp; omega) | (simp; done) | (simp; omega) | omega))⟩
  case rest =>
    obtain ⟨g, rfl, rfl, g0, g1, g2, g3, g4, hg, hb⟩ := hcut
    obtain ⟨hc, hf⟩ := bcellB hb
    have hSW := Lib.hid ((hS.below (w' := (w.alloc (.cells #[.int .i64 0, .int .i64 0, .int .i64 0, .int .i64 0, .string ⟨#[]⟩] 59))) (by repeat' (first | (with_reducible first | exact Below.refl _ _ | refine Below.drew ?_ | refine belowDrewN ?_ _ | refine belowIter ?_ ?_ _ _ | refine Below.setCell ?_ ?_ _ | refine Below.alloc ?_ ?_ _ | refine bT hb4 ?_ ?_ | refine bT hb3 ?_ ?_ | refine bT hb2 ?_ ?_ | refine bT hb1 ?_ ?_ | refine bT hbr ?_ ?_ | refine bT hb ?_ ?_) | (simp; done) | (simp; omega) | omega))).belowB hb (by simp))
    have hFW := Lib.hid ((Fq.refl B w).belowB (C := w.heap.size) (show Below w.heap.size w wc from (by repeat' (first | (with_reducible first | exact Below.refl _ _ | refine Below.drew ?_ | refine belowDrewN ?_ _ | refine belowIter ?_ ?_ _ _ | refine Below.setCell ?_ ?_ _ | refine Below.alloc ?_ ?_ _ | refine bT hb4 ?_ ?_ | refine bT hb3 ?_ ?_ | refine bT hb2 ?_ ?_ | refine bT hb1 ?_ ?_ | refine bT hbr ?_ ?_ | refine bT hb ?_ ?_) | (simp; done) | (simp; omega) | omega))) (Nat.le_refl _))
    obtain ⟨_, hRc, _⟩ := hSW.out.held
    obtain ⟨_, k1, _, _, _, k5, kf⟩ := hRc.six
    have hgr : ¬ g = r := by omega
    have hrg : ¬ r = g := by omega
    have hrz : ¬ r = w.heap.size := by omega
    have hzr : ¬ w.heap.size = r := by omega
    have HQ := Lib.hid (hSW.out.move (b := 0))
    have HF := Lib.hid (HQ.out.1.fail HK.out)
    have HT := Lib.hid ((TokB.new w _ _).kept (w' := (wc.setCell ⟨r, 1, none⟩ (.int .i64 ((0 : Nat) : Int))).setCell ⟨r, 5, none⟩ (.int .i64 k)) ((Below.heap_setCell _ _ _ _ (by simpa using hzr)).trans ((Below.heap_setCell _ _ _ _ (by simpa using hzr)).trans (hb.block _ (by omega)))))
    go_wp2
    refine bodyPost_ret (v := .agg #[.int .i64 0, .int .i64 0, .int .i64 0, .int .i64 0, .string ⟨#[]⟩]) (by simp [results, Tryz.results27, go_sem, hc, hf]) rfl ⟨0, 0, 0, 0, _, rfl, ?_, ?_⟩
    · exact HF.out.1.toks HT.out _ _ _ _ _
    · exact ((hFW.out.trans HQ.out.2).trans HF.out.2).toks (Nat.le_refl _) _ _ _ _ _
set_option maxRecDepth 100000 in
set_option maxHeartbeats 1000000 in
theorem rnx_end (B r : Nat) (s : ByteArray) (a p : Nat) (σ : CS) (t : Tok) (ha : a ≤ s.size) (hs : s.size ≤ 1000000000) (w : World) (hS : RS B w r s a σ)
    (h : (nextT (s.data.toList.drop a)).2 = .good t) (hp : a + (nextT (s.data.toList.drop a)).1 = p) (hi : t.kind = 0) :
    Calls Tryz.prog 27 #[.pointer (some ⟨r, 0, none⟩), .bool true] w (RnBad B r w 4) := by
  obtain ⟨q, hq⟩ : ∃ q, p + t.len = q := ⟨_, rfl⟩
  have HN := Lib.hid (fun W => rnext_tok s a p t h hp ha (by omega) W)
  simp only [hq] at HN
  have kk : (t.kind == 0) = true := by simpa using hi
  clear h hp hi
  obtain ⟨v, hR, hown⟩ := hS.held
  obtain ⟨hc0, hc1, _, _, _, _, hf0⟩ := hR.six
  have hlt := hR.lt
  have hbase := hS.base
  go_enter Tryz.func27, Tryz.ntmps27
  go_upto_region 1 with fail
  go_cut [5, 6] (fun s3 s4 wx => ∃ g : Nat, s3 = .pointer (some ⟨g, 0, none⟩) ∧ s4 = .int .i64 0 ∧ wx.cell? ⟨g, 0, none⟩ = some (.int .i64 t.kind) ∧ wx.cell? ⟨g, 1, none⟩ = some (.int .i64 p) ∧ wx.cell? ⟨g, 2, none⟩ = some (.int .i64 q) ∧ wx.cell? ⟨g, 3, none⟩ = some (.int .i64 t.n) ∧ wx.cell? ⟨g, 4, none⟩ = some (.string ⟨t.s.toArray⟩) ∧ w.heap.size < g ∧ Below (w.heap.size + 1) (w.alloc (.cells #[.int .i64 0, .int .i64 0, .int .i64 0, .int .i64 0, .string ⟨#[]⟩] 59)) wx)
  case first =>
    have ne1 : ¬ r = w.heap.size + 1 := by omega
    have ne2 : ¬ w.heap.size + 1 = r := by omega
    go_region_held3 (fun w' => w'.cell? ⟨r, 0, none⟩ = some (.string s) ∧ w'.cell? ⟨r, 1, none⟩ = some (.int .i64 a)) (go_keep) ((go_at_call 50; refine (HN.out _).mono ?_; rintro e w1 ⟨rfl, hb⟩; obtain ⟨hc, hf⟩ := bcell hb; have hz := hb.size; simp at hz; have hbw : Below w.heap.size w w1 := (by repeat' (first | (with_reducible first | exact Below.refl _ _ | refine Below.drew ?_ | refine belowDrewN ?_ _ | refine belowIter ?_ ?_ _ _ | refine Below.setCell ?_ ?_ _ | refine Below.alloc ?_ ?_ _ | refine bT hb4 ?_ ?_ | refine bT hb3 ?_ ?_ | refine bT hb2 ?_ ?_ | refine bT hb1 ?_ ?_ | refine bT hbr ?_ ?_ | refine bT hb ?_ ?_) | (simp; done) | (simp; omega) | omega)); have k0 := (hbw.cell (p := ⟨r, 0, none⟩) hlt).trans hc0; have k1 := (hbw.cell (p := ⟨r, 1, none⟩) hlt).trans hc1))
    all_goals go_wp2_with fail
    all_goals go_meet
    all_goals first
      | exact ⟨w1.heap.size, rfl, rfl, by simp [go_sem], by simp [go_sem], by simp [go_sem], by simp [go_sem], by simp [go_sem], by omega, (by repeat' (first | (with_reducible first | exact Below.refl _ _ | refine Below.drew ?_ | refine belowDrewN ?_ _ | refine belowIter ?_ ?_ _ _ | refine Below.setCell ?_ ?_ _ | refine Below.alloc ?_ ?_ _ | refine bT hb4 ?_ ?_ | refine bT hb3 ?_ ?_ | refine bT hb2 ?_ ?_ | refine bT hb1 ?_ ?_ | refine bT hbr ?_ ?_ | refine bT hb ?_ ?_) | (show _ ≤ _; simp; done) | (show _ ≤ _; simp; omega) | (simp; done) | (simp; omega) | omega))⟩
      | exact ⟨w.heap.size + 1, rfl, rfl, by simp [go_sem, hc, hf], by simp [go_sem, hc, hf], by simp [go_sem, hc, hf], by simp [go_sem, hc, hf], by simp [go_sem, hc, hf], by omega, (by repeat' (first | (with_reducible first | exact Below.refl _ _ | refine Below.drew ?_ | refine belowDrewN ?_ _ | refine belowIter ?_ ?_ _ _ | refine Below.setCell ?_ ?_ _ | refine Below.alloc ?_ ?_ _ | refine bT hb4 ?_ ?_ | refine bT hb3 ?_ ?_ | refine bT hb2 ?_ ?_ | refine bT hb1 ?_ ?_ | refine bT hbr ?_ ?_ | refine bT hb ?_ ?_) | (show _ ≤ _; simp; done) | (show _ ≤ _; simp; omega) | (simp; done) | (simp; omega) | omega))⟩
  case rest =>
    obtain ⟨g, rfl, rfl, g0, g1, g2, g3, g4, hg, hb⟩ := hcut
    obtain ⟨hc, hf⟩ := bcellB hb
    have hSW := Lib.hid ((hS.below (w' := (w.alloc (.cells #[.int .i64 0, .int .i64 0, .int .i64 0, .int .i64 0, .string ⟨#[]⟩] 59))) (by repeat' (first | (with_reducible first | exact Below.refl _ _ | refine Below.drew ?_ | refine belowDrewN ?_ _ | refine belowIter ?_ ?_ _ _ | refine Below.setCell ?_ ?_ _ | refine Below.alloc ?_ ?_ _ | refine bT hb4 ?_ ?_ | refine bT hb3 ?_ ?_ | refine bT hb2 ?_ ?_ | refine bT hb1 ?_ ?_ | refine bT hbr ?_ ?_ | refine bT hb ?_ ?_) | (simp; done) | (simp; omega) | omega))).belowB hb (by simp))
    have hFW := Lib.hid ((Fq.refl B w).belowB (C := w.heap.size) (show Below w.heap.size w wc from (by repeat' (first | (with_reducible first | exact Below.refl _ _ | refine Below.drew ?_ | refine belowDrewN ?_ _ | refine belowIter ?_ ?_ _ _ | refine Below.setCell ?_ ?_ _ | refine Below.alloc ?_ ?_ _ | refine bT hb4 ?_ ?_ | refine bT hb3 ?_ ?_ | refine bT hb2 ?_ ?_ | refine bT hb1 ?_ ?_ | refine bT hbr ?_ ?_ | refine bT hb ?_ ?_) | (simp; done) | (simp; omega) | omega))) (Nat.le_refl _))
    obtain ⟨_, hRc, _⟩ := hSW.out.held
    obtain ⟨_, k1, _, _, _, k5, kf⟩ := hRc.six
    have hgr : ¬ g = r := by omega
    have hrg : ¬ r = g := by omega
    have hrz : ¬ r = w.heap.size := by omega
    have hzr : ¬ w.heap.size = r := by omega
    have HQ := Lib.hid (hSW.out.move (b := q))
    have HF := Lib.hid (HQ.out.1.fail (k := 4) (by decide))
    have HT := Lib.hid ((TokB.new w _ _).kept (w' := (wc.setCell ⟨r, 1, none⟩ (.int .i64 q)).setCell ⟨r, 5, none⟩ (.int .i64 4)) ((Below.heap_setCell _ _ _ _ (by simpa using hzr)).trans ((Below.heap_setCell _ _ _ _ (by simpa using hzr)).trans (hb.block _ (by omega)))))
    go_wp2
    refine bodyPost_ret (v := ctkV t p q) (by simp [results, Tryz.results27, go_sem, hc, hf, ctkV]) rfl ⟨_, _, _, _, _, rfl, ?_, ?_⟩
    · exact HF.out.1.toks HT.out _ _ _ _ _
    · exact ((hFW.out.trans HQ.out.2).trans HF.out.2).toks (Nat.le_refl _) _ _ _ _ _
/-- The next token within a section, as the plain law has it. -/
theorem rnx_in (B r : Nat) (s : ByteArray) (a : Nat) (σ : CS) (ha : a ≤ s.size) (hs : s.size ≤ 1000000000) (w : World) (hS : RS B w r s a σ) (k : Int) (h : nextS (s.data.toList.drop a) = .bad k) :
    Calls Tryz.prog 27 #[.pointer (some ⟨r, 0, none⟩), .bool true] w (RnBad B r w k) := by
  have hk := nextS_ge h
  rcases nextS_bad h with h1 | ⟨rfl, h1⟩
  · exact rnx_bad B r s a σ true k ha hs w hS h1 hk
  · exact rnx_end B r s a _ σ _ ha hs w hS h1 rfl rfl
end Go.Proofs.YtibffdaljmmdoaaGreatDoor
