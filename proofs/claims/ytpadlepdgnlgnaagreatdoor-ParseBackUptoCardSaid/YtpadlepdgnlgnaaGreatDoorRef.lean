/- The walk of parse's references. -/
import Derived.Test.YtpadlepdgnlgnaaGreatDoorRead2
set_option linter.all false
namespace Go.Proofs.YtpadlepdgnlgnaaGreatDoor
open Go.RowKit Fo

set_option maxRecDepth 100000 in
set_option maxHeartbeats 1000000 in
/-- The number is out of range. -/
theorem ref_num (r : Nat) (t : Tok) (p q : Int) (h : t.n < 1 ∨ 8191 < t.n) (w : World) :
    Calls Tryz.prog 67 #[.pointer (some ⟨r, 0, none⟩), .agg #[.int .i64 t.kind, .int .i64 p, .int .i64 q, .int .i64 t.n, .string ⟨t.s.toArray⟩]] w fun e w' => e = .returned (.tuple #[.agg #[.int .i64 0, .int .i64 0, .int .i64 0, .string ⟨#[]⟩, .slice none 0 0, .slice none 0 0], .bool false]) ∧ Below w.heap.size w w' := by
  rcases h with h | h
  · have h1 : decide (t.n < 1) = true := by simpa using h
    go_enter Tryz.func67, Tryz.ntmps67
    go_wp2
    refine bodyPost_ret (v := .tuple #[.agg #[.int .i64 0, .int .i64 0, .int .i64 0, .string ⟨#[]⟩, .slice none 0 0, .slice none 0 0], .bool false]) (by simp [results, Tryz.results67, go_sem]) rfl ⟨rfl, (by repeat' (first | (with_reducible exact Below.refl _ _) | (with_reducible refine Below.drew ?_) | (with_reducible refine belowDrewN ?_ _) | (with_reducible refine belowIter ?_ ?_ _ _) | (with_reducible refine Below.setCell ?_ ?_ _) | (with_reducible refine Below.alloc ?_ ?_ _) | (with_reducible refine Below.trans ?_ (Below.mono hb4 ?_)) | (with_reducible refine Below.trans ?_ (Below.mono hb3 ?_)) | (with_reducible refine Below.trans ?_ (Below.mono hb2 ?_)) | (with_reducible refine Below.trans ?_ (Below.mono hb1 ?_)) | (with_reducible refine Below.trans ?_ (Below.mono hbr ?_)) | (with_reducible refine Below.trans ?_ (Below.mono hb ?_)) | (simp; done) | (simp; omega) | omega))⟩
  · have h1 : decide (t.n < 1) = false := by simp; omega
    have h2 : decide (8191 < t.n) = true := by simpa using h
    go_enter Tryz.func67, Tryz.ntmps67
    go_wp2
    refine bodyPost_ret (v := .tuple #[.agg #[.int .i64 0, .int .i64 0, .int .i64 0, .string ⟨#[]⟩, .slice none 0 0, .slice none 0 0], .bool false]) (by simp [results, Tryz.results67, go_sem]) rfl ⟨rfl, (by repeat' (first | (with_reducible exact Below.refl _ _) | (with_reducible refine Below.drew ?_) | (with_reducible refine belowDrewN ?_ _) | (with_reducible refine belowIter ?_ ?_ _ _) | (with_reducible refine Below.setCell ?_ ?_ _) | (with_reducible refine Below.alloc ?_ ?_ _) | (with_reducible refine Below.trans ?_ (Below.mono hb4 ?_)) | (with_reducible refine Below.trans ?_ (Below.mono hb3 ?_)) | (with_reducible refine Below.trans ?_ (Below.mono hb2 ?_)) | (with_reducible refine Below.trans ?_ (Below.mono hb1 ?_)) | (with_reducible refine Below.trans ?_ (Below.mono hbr ?_)) | (with_reducible refine Below.trans ?_ (Below.mono hb ?_)) | (simp; done) | (simp; omega) | omega))⟩
set_option maxRecDepth 100000 in
set_option maxHeartbeats 1000000 in
/-- No token, or a bad one, behind the number. -/
theorem ref_lex1 (r : Nat) (s : ByteArray) (a q : Nat) (t : Tok) (p : Int) (k : Int) (hq : q ≤ s.size) (hs : s.size ≤ 140737488355327) (m : Int) (w : World) (hm : MaxW w m) (hr : RdAt w r s a)
    (hn : 1 ≤ t.n ∧ t.n ≤ 8191) (h : (nextT (s.data.toList.drop q)).2 = .bad k) :
    Calls Tryz.prog 67 #[.pointer (some ⟨r, 0, none⟩), .agg #[.int .i64 t.kind, .int .i64 p, .int .i64 q, .int .i64 t.n, .string ⟨t.s.toArray⟩]] w fun e w' => e = .returned (.tuple #[.agg #[.int .i64 0, .int .i64 0, .int .i64 0, .string ⟨#[]⟩, .slice none 0 0, .slice none 0 0], .bool false]) ∧ Below w.heap.size w w' := by
  have HN := Lib.hid (fun W (hW : MaxW W m) (hR : RdAt W r s a) => peek_bad r s a q k hq hs m W hW hR h)
  clear h
  have h1 : decide (t.n < 1) = false := by simp; omega
  have h2 : decide (8191 < t.n) = false := by simp; omega
  have hlt := hr.lt
  go_enter Tryz.func67, Tryz.ntmps67
  go_wp2_with fail
  refine (HN.out _ (hm.below (by repeat' (first | (with_reducible exact Below.refl _ _) | (with_reducible refine Below.drew ?_) | (with_reducible refine belowDrewN ?_ _) | (with_reducible refine belowIter ?_ ?_ _ _) | (with_reducible refine Below.setCell ?_ ?_ _) | (with_reducible refine Below.alloc ?_ ?_ _) | (with_reducible refine Below.trans ?_ (Below.mono hb4 ?_)) | (with_reducible refine Below.trans ?_ (Below.mono hb3 ?_)) | (with_reducible refine Below.trans ?_ (Below.mono hb2 ?_)) | (with_reducible refine Below.trans ?_ (Below.mono hb1 ?_)) | (with_reducible refine Below.trans ?_ (Below.mono hbr ?_)) | (with_reducible refine Below.trans ?_ (Below.mono hb ?_)) | (simp; done) | (simp; omega) | omega))) (hr.below (by repeat' (first | (with_reducible exact Below.refl _ _) | (with_reducible refine Below.drew ?_) | (with_reducible refine belowDrewN ?_ _) | (with_reducible refine belowIter ?_ ?_ _ _) | (with_reducible refine Below.setCell ?_ ?_ _) | (with_reducible refine Below.alloc ?_ ?_ _) | (with_reducible refine Below.trans ?_ (Below.mono hb4 ?_)) | (with_reducible refine Below.trans ?_ (Below.mono hb3 ?_)) | (with_reducible refine Below.trans ?_ (Below.mono hb2 ?_)) | (with_reducible refine Below.trans ?_ (Below.mono hb1 ?_)) | (with_reducible refine Below.trans ?_ (Below.mono hbr ?_)) | (with_reducible refine Below.trans ?_ (Below.mono hb ?_)) | (simp; done) | (simp; omega) | omega)))).mono ?_
  rintro e w1 ⟨rfl, hb⟩
  obtain ⟨hc, hf⟩ := bcell hb
  have hz : w.heap.size + 1 < w1.heap.size := by have := hb.size; simp at this; omega
  go_wp2
  refine bodyPost_ret (v := .tuple #[.agg #[.int .i64 0, .int .i64 0, .int .i64 0, .string ⟨#[]⟩, .slice none 0 0, .slice none 0 0], .bool false]) (by simp [results, Tryz.results67, go_sem, hc, hf, hz]) rfl ⟨rfl, (by repeat' (first | (with_reducible exact Below.refl _ _) | (with_reducible refine Below.drew ?_) | (with_reducible refine belowDrewN ?_ _) | (with_reducible refine belowIter ?_ ?_ _ _) | (with_reducible refine Below.setCell ?_ ?_ _) | (with_reducible refine Below.alloc ?_ ?_ _) | (with_reducible refine Below.trans ?_ (Below.mono hb4 ?_)) | (with_reducible refine Below.trans ?_ (Below.mono hb3 ?_)) | (with_reducible refine Below.trans ?_ (Below.mono hb2 ?_)) | (with_reducible refine Below.trans ?_ (Below.mono hb1 ?_)) | (with_reducible refine Below.trans ?_ (Below.mono hbr ?_)) | (with_reducible refine Below.trans ?_ (Below.mono hb ?_)) | (simp; done) | (simp; omega) | omega))⟩

set_option maxRecDepth 100000 in
set_option maxHeartbeats 1000000 in
/-- What follows is no generation. -/
theorem ref_gen (r : Nat) (s : ByteArray) (a q : Nat) (t : Tok) (p : Int) (hq : q ≤ s.size) (hs : s.size ≤ 140737488355327) (m : Int) (w : World) (hm : MaxW w m) (hr : RdAt w r s a) (hn : 1 ≤ t.n ∧ t.n ≤ 8191) (g : Tok) (h : (nextT (s.data.toList.drop q)).2 = .good g) (hg : g.kind ≠ 1 ∨ g.n < 0 ∨ 65535 < g.n) :
    Calls Tryz.prog 67 #[.pointer (some ⟨r, 0, none⟩), .agg #[.int .i64 t.kind, .int .i64 p, .int .i64 q, .int .i64 t.n, .string ⟨t.s.toArray⟩]] w fun e w' => e = .returned (.tuple #[.agg #[.int .i64 0, .int .i64 0, .int .i64 0, .string ⟨#[]⟩, .slice none 0 0, .slice none 0 0], .bool false]) ∧ Below w.heap.size w w' := by
  have HN := Lib.hid (fun W (hW : MaxW W m) (hR : RdAt W r s a) => peek_good r s a q _ g hq hs m W hW hR h rfl)
  obtain ⟨p1, hp1⟩ : ∃ p1, q + (nextT (s.data.toList.drop q)).1 = p1 := ⟨_, rfl⟩
  obtain ⟨q1, hq1⟩ : ∃ q1, p1 + g.len = q1 := ⟨_, rfl⟩
  simp only [hp1, hq1] at HN
  have hq1s : q1 ≤ s.size := by
    have := (nextT_good h).1
    rw [List.length_drop] at this
    have h2 : s.data.toList.length = s.size := rfl
    omega
  clear h hp1 hq1
  by_cases k1 : g.kind = 1
  · have t1 : (g.kind != 1) = false := by simpa using k1
    by_cases k2 : g.n < 0
    · have t2 : decide (g.n < 0) = true := by simpa using k2
      clear hg k1
      have h1 : decide (t.n < 1) = false := by simp; omega
      have h2 : decide (8191 < t.n) = false := by simp; omega
      have hlt := hr.lt
      go_enter Tryz.func67, Tryz.ntmps67
      go_wp2_with fail
      refine (HN.out _ (hm.below (by repeat' (first | (with_reducible exact Below.refl _ _) | (with_reducible refine Below.drew ?_) | (with_reducible refine belowDrewN ?_ _) | (with_reducible refine belowIter ?_ ?_ _ _) | (with_reducible refine Below.setCell ?_ ?_ _) | (with_reducible refine Below.alloc ?_ ?_ _) | (with_reducible refine Below.trans ?_ (Below.mono hb4 ?_)) | (with_reducible refine Below.trans ?_ (Below.mono hb3 ?_)) | (with_reducible refine Below.trans ?_ (Below.mono hb2 ?_)) | (with_reducible refine Below.trans ?_ (Below.mono hb1 ?_)) | (with_reducible refine Below.trans ?_ (Below.mono hbr ?_)) | (with_reducible refine Below.trans ?_ (Below.mono hb ?_)) | (simp; done) | (simp; omega) | omega))) (hr.below (by repeat' (first | (with_reducible exact Below.refl _ _) | (with_reducible refine Below.drew ?_) | (with_reducible refine belowDrewN ?_ _) | (with_reducible refine belowIter ?_ ?_ _ _) | (with_reducible refine Below.setCell ?_ ?_ _) | (with_reducible refine Below.alloc ?_ ?_ _) | (with_reducible refine Below.trans ?_ (Below.mono hb4 ?_)) | (with_reducible refine Below.trans ?_ (Below.mono hb3 ?_)) | (with_reducible refine Below.trans ?_ (Below.mono hb2 ?_)) | (with_reducible refine Below.trans ?_ (Below.mono hb1 ?_)) | (with_reducible refine Below.trans ?_ (Below.mono hbr ?_)) | (with_reducible refine Below.trans ?_ (Below.mono hb ?_)) | (simp; done) | (simp; omega) | omega)))).mono ?_
      rintro e w1 ⟨rfl, hb⟩
      obtain ⟨hc, hf⟩ := bcell hb
      have hz : w.heap.size + 1 < w1.heap.size := by have := hb.size; simp at this; omega
      go_wp2
      refine bodyPost_ret (v := .tuple #[.agg #[.int .i64 0, .int .i64 0, .int .i64 0, .string ⟨#[]⟩, .slice none 0 0, .slice none 0 0], .bool false]) (by simp [results, Tryz.results67, go_sem, hc, hf, hz]) rfl ⟨rfl, (by repeat' (first | (with_reducible exact Below.refl _ _) | (with_reducible refine Below.drew ?_) | (with_reducible refine belowDrewN ?_ _) | (with_reducible refine belowIter ?_ ?_ _ _) | (with_reducible refine Below.setCell ?_ ?_ _) | (with_reducible refine Below.alloc ?_ ?_ _) | (with_reducible refine Below.trans ?_ (Below.mono hb4 ?_)) | (with_reducible refine Below.trans ?_ (Below.mono hb3 ?_)) | (with_reducible refine Below.trans ?_ (Below.mono hb2 ?_)) | (with_reducible refine Below.trans ?_ (Below.mono hb1 ?_)) | (with_reducible refine Below.trans ?_ (Below.mono hbr ?_)) | (with_reducible refine Below.trans ?_ (Below.mono hb ?_)) | (simp; done) | (simp; omega) | omega))⟩
    · have t2 : decide (g.n < 0) = false := by simpa using k2
      have t3 : decide (65535 < g.n) = true := by simp; omega
      clear hg k1
      have h1 : decide (t.n < 1) = false := by simp; omega
      have h2 : decide (8191 < t.n) = false := by simp; omega
      have hlt := hr.lt
      go_enter Tryz.func67, Tryz.ntmps67
      go_wp2_with fail
      refine (HN.out _ (hm.below (by repeat' (first | (with_reducible exact Below.refl _ _) | (with_reducible refine Below.drew ?_) | (with_reducible refine belowDrewN ?_ _) | (with_reducible refine belowIter ?_ ?_ _ _) | (with_reducible refine Below.setCell ?_ ?_ _) | (with_reducible refine Below.alloc ?_ ?_ _) | (with_reducible refine Below.trans ?_ (Below.mono hb4 ?_)) | (with_reducible refine Below.trans ?_ (Below.mono hb3 ?_)) | (with_reducible refine Below.trans ?_ (Below.mono hb2 ?_)) | (with_reducible refine Below.trans ?_ (Below.mono hb1 ?_)) | (with_reducible refine Below.trans ?_ (Below.mono hbr ?_)) | (with_reducible refine Below.trans ?_ (Below.mono hb ?_)) | (simp; done) | (simp; omega) | omega))) (hr.below (by repeat' (first | (with_reducible exact Below.refl _ _) | (with_reducible refine Below.drew ?_) | (with_reducible refine belowDrewN ?_ _) | (with_reducible refine belowIter ?_ ?_ _ _) | (with_reducible refine Below.setCell ?_ ?_ _) | (with_reducible refine Below.alloc ?_ ?_ _) | (with_reducible refine Below.trans ?_ (Below.mono hb4 ?_)) | (with_reducible refine Below.trans ?_ (Below.mono hb3 ?_)) | (with_reducible refine Below.trans ?_ (Below.mono hb2 ?_)) | (with_reducible refine Below.trans ?_ (Below.mono hb1 ?_)) | (with_reducible refine Below.trans ?_ (Below.mono hbr ?_)) | (with_reducible refine Below.trans ?_ (Below.mono hb ?_)) | (simp; done) | (simp; omega) | omega)))).mono ?_
      rintro e w1 ⟨rfl, hb⟩
      obtain ⟨hc, hf⟩ := bcell hb
      have hz : w.heap.size + 1 < w1.heap.size := by have := hb.size; simp at this; omega
      go_wp2
      refine bodyPost_ret (v := .tuple #[.agg #[.int .i64 0, .int .i64 0, .int .i64 0, .string ⟨#[]⟩, .slice none 0 0, .slice none 0 0], .bool false]) (by simp [results, Tryz.results67, go_sem, hc, hf, hz]) rfl ⟨rfl, (by repeat' (first | (with_reducible exact Below.refl _ _) | (with_reducible refine Below.drew ?_) | (with_reducible refine belowDrewN ?_ _) | (with_reducible refine belowIter ?_ ?_ _ _) | (with_reducible refine Below.setCell ?_ ?_ _) | (with_reducible refine Below.alloc ?_ ?_ _) | (with_reducible refine Below.trans ?_ (Below.mono hb4 ?_)) | (with_reducible refine Below.trans ?_ (Below.mono hb3 ?_)) | (with_reducible refine Below.trans ?_ (Below.mono hb2 ?_)) | (with_reducible refine Below.trans ?_ (Below.mono hb1 ?_)) | (with_reducible refine Below.trans ?_ (Below.mono hbr ?_)) | (with_reducible refine Below.trans ?_ (Below.mono hb ?_)) | (simp; done) | (simp; omega) | omega))⟩
  · have t1 : (g.kind != 1) = true := by simpa using k1
    clear hg k1
    have h1 : decide (t.n < 1) = false := by simp; omega
    have h2 : decide (8191 < t.n) = false := by simp; omega
    have hlt := hr.lt
    go_enter Tryz.func67, Tryz.ntmps67
    go_wp2_with fail
    refine (HN.out _ (hm.below (by repeat' (first | (with_reducible exact Below.refl _ _) | (with_reducible refine Below.drew ?_) | (with_reducible refine belowDrewN ?_ _) | (with_reducible refine belowIter ?_ ?_ _ _) | (with_reducible refine Below.setCell ?_ ?_ _) | (with_reducible refine Below.alloc ?_ ?_ _) | (with_reducible refine Below.trans ?_ (Below.mono hb4 ?_)) | (with_reducible refine Below.trans ?_ (Below.mono hb3 ?_)) | (with_reducible refine Below.trans ?_ (Below.mono hb2 ?_)) | (with_reducible refine Below.trans ?_ (Below.mono hb1 ?_)) | (with_reducible refine Below.trans ?_ (Below.mono hbr ?_)) | (with_reducible refine Below.trans ?_ (Below.mono hb ?_)) | (simp; done) | (simp; omega) | omega))) (hr.below (by repeat' (first | (with_reducible exact Below.refl _ _) | (with_reducible refine Below.drew ?_) | (with_reducible refine belowDrewN ?_ _) | (with_reducible refine belowIter ?_ ?_ _ _) | (with_reducible refine Below.setCell ?_ ?_ _) | (with_reducible refine Below.alloc ?_ ?_ _) | (with_reducible refine Below.trans ?_ (Below.mono hb4 ?_)) | (with_reducible refine Below.trans ?_ (Below.mono hb3 ?_)) | (with_reducible refine Below.trans ?_ (Below.mono hb2 ?_)) | (with_reducible refine Below.trans ?_ (Below.mono hb1 ?_)) | (with_reducible refine Below.trans ?_ (Below.mono hbr ?_)) | (with_reducible refine Below.trans ?_ (Below.mono hb ?_)) | (simp; done) | (simp; omega) | omega)))).mono ?_
    rintro e w1 ⟨rfl, hb⟩
    obtain ⟨hc, hf⟩ := bcell hb
    have hz : w.heap.size + 1 < w1.heap.size := by have := hb.size; simp at this; omega
    go_wp2
    refine bodyPost_ret (v := .tuple #[.agg #[.int .i64 0, .int .i64 0, .int .i64 0, .string ⟨#[]⟩, .slice none 0 0, .slice none 0 0], .bool false]) (by simp [results, Tryz.results67, go_sem, hc, hf, hz]) rfl ⟨rfl, (by repeat' (first | (with_reducible exact Below.refl _ _) | (with_reducible refine Below.drew ?_) | (with_reducible refine belowDrewN ?_ _) | (with_reducible refine belowIter ?_ ?_ _ _) | (with_reducible refine Below.setCell ?_ ?_ _) | (with_reducible refine Below.alloc ?_ ?_ _) | (with_reducible refine Below.trans ?_ (Below.mono hb4 ?_)) | (with_reducible refine Below.trans ?_ (Below.mono hb3 ?_)) | (with_reducible refine Below.trans ?_ (Below.mono hb2 ?_)) | (with_reducible refine Below.trans ?_ (Below.mono hb1 ?_)) | (with_reducible refine Below.trans ?_ (Below.mono hbr ?_)) | (with_reducible refine Below.trans ?_ (Below.mono hb ?_)) | (simp; done) | (simp; omega) | omega))⟩
set_option maxRecDepth 100000 in
set_option maxHeartbeats 1000000 in
/-- No token behind the generation. -/
theorem ref_lex2 (r : Nat) (s : ByteArray) (a q : Nat) (t : Tok) (p : Int) (hq : q ≤ s.size) (hs : s.size ≤ 140737488355327) (m : Int) (w : World) (hm : MaxW w m) (hr : RdAt w r s a) (hn : 1 ≤ t.n ∧ t.n ≤ 8191) (g : Tok) (h : (nextT (s.data.toList.drop q)).2 = .good g) (hg : g.kind = 1 ∧ 0 ≤ g.n ∧ g.n ≤ 65535) (k : Int) (h2 : (nextT ((s.data.toList.drop q).drop ((nextT (s.data.toList.drop q)).1 + g.len))).2 = .bad k) :
    Calls Tryz.prog 67 #[.pointer (some ⟨r, 0, none⟩), .agg #[.int .i64 t.kind, .int .i64 p, .int .i64 q, .int .i64 t.n, .string ⟨t.s.toArray⟩]] w fun e w' => e = .returned (.tuple #[.agg #[.int .i64 0, .int .i64 0, .int .i64 0, .string ⟨#[]⟩, .slice none 0 0, .slice none 0 0], .bool false]) ∧ Below w.heap.size w w' := by
  have HN := Lib.hid (fun W (hW : MaxW W m) (hR : RdAt W r s a) => peek_good r s a q _ g hq hs m W hW hR h rfl)
  obtain ⟨p1, hp1⟩ : ∃ p1, q + (nextT (s.data.toList.drop q)).1 = p1 := ⟨_, rfl⟩
  obtain ⟨q1, hq1⟩ : ∃ q1, p1 + g.len = q1 := ⟨_, rfl⟩
  simp only [hp1, hq1] at HN
  have hq1s : q1 ≤ s.size := by
    have := (nextT_good h).1
    rw [List.length_drop] at this
    have h2 : s.data.toList.length = s.size := rfl
    omega
  rw [List.drop_drop, show q + ((nextT (s.data.toList.drop q)).1 + g.len) = q1 by omega] at h2
  have HN2 := Lib.hid (fun W (hW : MaxW W m) (hR : RdAt W r s a) => peek_bad r s a q1 k hq1s hs m W hW hR h2)
  clear h h2 hp1 hq1
  have t1 : (g.kind != 1) = false := by simpa using hg.1
  have t2 : decide (g.n < 0) = false := by simp; omega
  have t3 : decide (65535 < g.n) = false := by simp; omega
  have hg2 := hg.2
  clear hg
  have h1 : decide (t.n < 1) = false := by simp; omega
  have h2 : decide (8191 < t.n) = false := by simp; omega
  have hlt := hr.lt
  go_enter Tryz.func67, Tryz.ntmps67
  go_wp2_with fail
  refine (HN.out _ (hm.below (by repeat' (first | (with_reducible exact Below.refl _ _) | (with_reducible refine Below.drew ?_) | (with_reducible refine belowDrewN ?_ _) | (with_reducible refine belowIter ?_ ?_ _ _) | (with_reducible refine Below.setCell ?_ ?_ _) | (with_reducible refine Below.alloc ?_ ?_ _) | (with_reducible refine Below.trans ?_ (Below.mono hb4 ?_)) | (with_reducible refine Below.trans ?_ (Below.mono hb3 ?_)) | (with_reducible refine Below.trans ?_ (Below.mono hb2 ?_)) | (with_reducible refine Below.trans ?_ (Below.mono hb1 ?_)) | (with_reducible refine Below.trans ?_ (Below.mono hbr ?_)) | (with_reducible refine Below.trans ?_ (Below.mono hb ?_)) | (simp; done) | (simp; omega) | omega))) (hr.below (by repeat' (first | (with_reducible exact Below.refl _ _) | (with_reducible refine Below.drew ?_) | (with_reducible refine belowDrewN ?_ _) | (with_reducible refine belowIter ?_ ?_ _ _) | (with_reducible refine Below.setCell ?_ ?_ _) | (with_reducible refine Below.alloc ?_ ?_ _) | (with_reducible refine Below.trans ?_ (Below.mono hb4 ?_)) | (with_reducible refine Below.trans ?_ (Below.mono hb3 ?_)) | (with_reducible refine Below.trans ?_ (Below.mono hb2 ?_)) | (with_reducible refine Below.trans ?_ (Below.mono hb1 ?_)) | (with_reducible refine Below.trans ?_ (Below.mono hbr ?_)) | (with_reducible refine Below.trans ?_ (Below.mono hb ?_)) | (simp; done) | (simp; omega) | omega)))).mono ?_
  rintro e w1 ⟨rfl, hb⟩
  obtain ⟨hc, hf⟩ := bcell hb
  have hz : w.heap.size + 1 < w1.heap.size := by have := hb.size; simp at this; omega
  go_wp2_with fail
  refine (HN2.out _ (hm.below (by repeat' (first | (with_reducible exact Below.refl _ _) | (with_reducible refine Below.drew ?_) | (with_reducible refine belowDrewN ?_ _) | (with_reducible refine belowIter ?_ ?_ _ _) | (with_reducible refine Below.setCell ?_ ?_ _) | (with_reducible refine Below.alloc ?_ ?_ _) | (with_reducible refine Below.trans ?_ (Below.mono hb4 ?_)) | (with_reducible refine Below.trans ?_ (Below.mono hb3 ?_)) | (with_reducible refine Below.trans ?_ (Below.mono hb2 ?_)) | (with_reducible refine Below.trans ?_ (Below.mono hb1 ?_)) | (with_reducible refine Below.trans ?_ (Below.mono hbr ?_)) | (with_reducible refine Below.trans ?_ (Below.mono hb ?_)) | (simp; done) | (simp; omega) | omega))) (hr.below (by repeat' (first | (with_reducible exact Below.refl _ _) | (with_reducible refine Below.drew ?_) | (with_reducible refine belowDrewN ?_ _) | (with_reducible refine belowIter ?_ ?_ _ _) | (with_reducible refine Below.setCell ?_ ?_ _) | (with_reducible refine Below.alloc ?_ ?_ _) | (with_reducible refine Below.trans ?_ (Below.mono hb4 ?_)) | (with_reducible refine Below.trans ?_ (Below.mono hb3 ?_)) | (with_reducible refine Below.trans ?_ (Below.mono hb2 ?_)) | (with_reducible refine Below.trans ?_ (Below.mono hb1 ?_)) | (with_reducible refine Below.trans ?_ (Below.mono hbr ?_)) | (with_reducible refine Below.trans ?_ (Below.mono hb ?_)) | (simp; done) | (simp; omega) | omega)))).mono ?_
  rintro e w2 ⟨rfl, hb2⟩
  replace hb2 := hb2.mono (show w.heap.size + 2 ≤ _ by simp; omega)
  obtain ⟨hc2, hf2⟩ := bcellB hb2
  have hz2 : w.heap.size + 1 < w2.heap.size := by have := hb2.size; simp at this; omega
  have hz3 : w.heap.size < w2.heap.size := by omega
  go_wp2
  refine bodyPost_ret (v := .tuple #[.agg #[.int .i64 0, .int .i64 0, .int .i64 0, .string ⟨#[]⟩, .slice none 0 0, .slice none 0 0], .bool false]) (by simp [results, Tryz.results67, go_sem, hc2, hf2, hc, hf, hz, hz2]) rfl ⟨rfl, (by repeat' (first | (with_reducible exact Below.refl _ _) | (with_reducible refine Below.drew ?_) | (with_reducible refine belowDrewN ?_ _) | (with_reducible refine belowIter ?_ ?_ _ _) | (with_reducible refine Below.setCell ?_ ?_ _) | (with_reducible refine Below.alloc ?_ ?_ _) | (with_reducible refine Below.trans ?_ (Below.mono hb4 ?_)) | (with_reducible refine Below.trans ?_ (Below.mono hb3 ?_)) | (with_reducible refine Below.trans ?_ (Below.mono hb2 ?_)) | (with_reducible refine Below.trans ?_ (Below.mono hb1 ?_)) | (with_reducible refine Below.trans ?_ (Below.mono hbr ?_)) | (with_reducible refine Below.trans ?_ (Below.mono hb ?_)) | (simp; done) | (simp; omega) | omega))⟩
set_option maxRecDepth 100000 in
set_option maxHeartbeats 1000000 in
/-- What follows the generation is not R. -/
theorem ref_word (r : Nat) (s : ByteArray) (a q : Nat) (t : Tok) (p : Int) (hq : q ≤ s.size) (hs : s.size ≤ 140737488355327) (m : Int) (w : World) (hm : MaxW w m) (hr : RdAt w r s a) (hn : 1 ≤ t.n ∧ t.n ≤ 8191) (g : Tok) (h : (nextT (s.data.toList.drop q)).2 = .good g) (hg : g.kind = 1 ∧ 0 ≤ g.n ∧ g.n ≤ 65535) (u : Tok) (h2 : (nextT ((s.data.toList.drop q).drop ((nextT (s.data.toList.drop q)).1 + g.len))).2 = .good u) (hu : ¬ (u.kind = 5 ∧ u.s = [82])) :
    Calls Tryz.prog 67 #[.pointer (some ⟨r, 0, none⟩), .agg #[.int .i64 t.kind, .int .i64 p, .int .i64 q, .int .i64 t.n, .string ⟨t.s.toArray⟩]] w fun e w' => e = .returned (.tuple #[.agg #[.int .i64 0, .int .i64 0, .int .i64 0, .string ⟨#[]⟩, .slice none 0 0, .slice none 0 0], .bool false]) ∧ Below w.heap.size w w' := by
  have HN := Lib.hid (fun W (hW : MaxW W m) (hR : RdAt W r s a) => peek_good r s a q _ g hq hs m W hW hR h rfl)
  obtain ⟨p1, hp1⟩ : ∃ p1, q + (nextT (s.data.toList.drop q)).1 = p1 := ⟨_, rfl⟩
  obtain ⟨q1, hq1⟩ : ∃ q1, p1 + g.len = q1 := ⟨_, rfl⟩
  simp only [hp1, hq1] at HN
  have hq1s : q1 ≤ s.size := by
    have := (nextT_good h).1
    rw [List.length_drop] at this
    have h2 : s.data.toList.length = s.size := rfl
    omega
  rw [List.drop_drop, show q + ((nextT (s.data.toList.drop q)).1 + g.len) = q1 by omega] at h2
  obtain ⟨p2, hp2⟩ : ∃ p2, q1 + (nextT (s.data.toList.drop q1)).1 = p2 := ⟨_, rfl⟩
  obtain ⟨q2, hq2⟩ : ∃ q2, p2 + u.len = q2 := ⟨_, rfl⟩
  have HN2 := Lib.hid (fun W (hW : MaxW W m) (hR : RdAt W r s a) => peek_good r s a q1 _ u hq1s hs m W hW hR h2 rfl)
  simp only [hp2, hq2] at HN2
  have HU := Lib.hid (show (u.kind == 5 && u.s == [82]) = false by rw [Bool.eq_false_iff]; simpa using hu)
  clear h h2 hp1 hq1 hp2 hq2 hu
  have t1 : (g.kind != 1) = false := by simpa using hg.1
  have t2 : decide (g.n < 0) = false := by simp; omega
  have t3 : decide (65535 < g.n) = false := by simp; omega
  have hg2 := hg.2
  clear hg
  have h1 : decide (t.n < 1) = false := by simp; omega
  have h2 : decide (8191 < t.n) = false := by simp; omega
  have hlt := hr.lt
  go_enter Tryz.func67, Tryz.ntmps67
  go_wp2_with fail
  refine (HN.out _ (hm.below (by repeat' (first | (with_reducible exact Below.refl _ _) | (with_reducible refine Below.drew ?_) | (with_reducible refine belowDrewN ?_ _) | (with_reducible refine belowIter ?_ ?_ _ _) | (with_reducible refine Below.setCell ?_ ?_ _) | (with_reducible refine Below.alloc ?_ ?_ _) | (with_reducible refine Below.trans ?_ (Below.mono hb4 ?_)) | (with_reducible refine Below.trans ?_ (Below.mono hb3 ?_)) | (with_reducible refine Below.trans ?_ (Below.mono hb2 ?_)) | (with_reducible refine Below.trans ?_ (Below.mono hb1 ?_)) | (with_reducible refine Below.trans ?_ (Below.mono hbr ?_)) | (with_reducible refine Below.trans ?_ (Below.mono hb ?_)) | (simp; done) | (simp; omega) | omega))) (hr.below (by repeat' (first | (with_reducible exact Below.refl _ _) | (with_reducible refine Below.drew ?_) | (with_reducible refine belowDrewN ?_ _) | (with_reducible refine belowIter ?_ ?_ _ _) | (with_reducible refine Below.setCell ?_ ?_ _) | (with_reducible refine Below.alloc ?_ ?_ _) | (with_reducible refine Below.trans ?_ (Below.mono hb4 ?_)) | (with_reducible refine Below.trans ?_ (Below.mono hb3 ?_)) | (with_reducible refine Below.trans ?_ (Below.mono hb2 ?_)) | (with_reducible refine Below.trans ?_ (Below.mono hb1 ?_)) | (with_reducible refine Below.trans ?_ (Below.mono hbr ?_)) | (with_reducible refine Below.trans ?_ (Below.mono hb ?_)) | (simp; done) | (simp; omega) | omega)))).mono ?_
  rintro e w1 ⟨rfl, hb⟩
  obtain ⟨hc, hf⟩ := bcell hb
  have hz : w.heap.size + 1 < w1.heap.size := by have := hb.size; simp at this; omega
  go_wp2_with fail
  refine (HN2.out _ (hm.below (by repeat' (first | (with_reducible exact Below.refl _ _) | (with_reducible refine Below.drew ?_) | (with_reducible refine belowDrewN ?_ _) | (with_reducible refine belowIter ?_ ?_ _ _) | (with_reducible refine Below.setCell ?_ ?_ _) | (with_reducible refine Below.alloc ?_ ?_ _) | (with_reducible refine Below.trans ?_ (Below.mono hb4 ?_)) | (with_reducible refine Below.trans ?_ (Below.mono hb3 ?_)) | (with_reducible refine Below.trans ?_ (Below.mono hb2 ?_)) | (with_reducible refine Below.trans ?_ (Below.mono hb1 ?_)) | (with_reducible refine Below.trans ?_ (Below.mono hbr ?_)) | (with_reducible refine Below.trans ?_ (Below.mono hb ?_)) | (simp; done) | (simp; omega) | omega))) (hr.below (by repeat' (first | (with_reducible exact Below.refl _ _) | (with_reducible refine Below.drew ?_) | (with_reducible refine belowDrewN ?_ _) | (with_reducible refine belowIter ?_ ?_ _ _) | (with_reducible refine Below.setCell ?_ ?_ _) | (with_reducible refine Below.alloc ?_ ?_ _) | (with_reducible refine Below.trans ?_ (Below.mono hb4 ?_)) | (with_reducible refine Below.trans ?_ (Below.mono hb3 ?_)) | (with_reducible refine Below.trans ?_ (Below.mono hb2 ?_)) | (with_reducible refine Below.trans ?_ (Below.mono hb1 ?_)) | (with_reducible refine Below.trans ?_ (Below.mono hbr ?_)) | (with_reducible refine Below.trans ?_ (Below.mono hb ?_)) | (simp; done) | (simp; omega) | omega)))).mono ?_
  rintro e w2 ⟨rfl, hb2⟩
  replace hb2 := hb2.mono (show w.heap.size + 2 ≤ _ by simp; omega)
  obtain ⟨hc2, hf2⟩ := bcellB hb2
  have hz2 : w.heap.size + 1 < w2.heap.size := by have := hb2.size; simp at this; omega
  have hz3 : w.heap.size < w2.heap.size := by omega
  go_wp2_with fail
  refine (word_in' _ _ _ _ _ _ [82] false HU.out _).mono ?_
  rintro e w3 ⟨rfl, hb3⟩
  replace hb3 := hb2.trans ((((Below.refl _ w2).alloc (show w.heap.size + 2 ≤ _ by omega) _)).trans (hb3.mono (by simp; omega)))
  obtain ⟨hc3, hf3⟩ := bcellB hb3
  have hz4 : w.heap.size + 1 < w3.heap.size := by have := hb3.size; simp at this; omega
  have hz5 : w.heap.size < w3.heap.size := by omega
  go_wp2
  refine bodyPost_ret (v := .tuple #[.agg #[.int .i64 0, .int .i64 0, .int .i64 0, .string ⟨#[]⟩, .slice none 0 0, .slice none 0 0], .bool false]) (by simp [results, Tryz.results67, go_sem, hc3, hf3, hc, hf, hz, hz4]) rfl ⟨rfl, (by repeat' (first | (with_reducible exact Below.refl _ _) | (with_reducible refine Below.drew ?_) | (with_reducible refine belowDrewN ?_ _) | (with_reducible refine belowIter ?_ ?_ _ _) | (with_reducible refine Below.setCell ?_ ?_ _) | (with_reducible refine Below.alloc ?_ ?_ _) | (with_reducible refine Below.trans ?_ (Below.mono hb4 ?_)) | (with_reducible refine Below.trans ?_ (Below.mono hb3 ?_)) | (with_reducible refine Below.trans ?_ (Below.mono hb2 ?_)) | (with_reducible refine Below.trans ?_ (Below.mono hb1 ?_)) | (with_reducible refine Below.trans ?_ (Below.mono hbr ?_)) | (with_reducible refine Below.trans ?_ (Below.mono hb ?_)) | (simp; done) | (simp; omega) | omega))⟩

set_option maxRecDepth 100000 in
set_option maxHeartbeats 1000000 in
/-- A reference. -/
theorem ref_good (r : Nat) (s : ByteArray) (a q : Nat) (t : Tok) (p : Int) (hq : q ≤ s.size) (hs : s.size ≤ 140737488355327) (m : Int) (w : World) (hm : MaxW w m) (hr : RdAt w r s a) (hn : 1 ≤ t.n ∧ t.n ≤ 8191) (g : Tok) (h : (nextT (s.data.toList.drop q)).2 = .good g) (hg : g.kind = 1 ∧ 0 ≤ g.n ∧ g.n ≤ 65535) (u : Tok) (h2 : (nextT ((s.data.toList.drop q).drop ((nextT (s.data.toList.drop q)).1 + g.len))).2 = .good u) (hu : u.kind = 5 ∧ u.s = [82]) :
    Calls Tryz.prog 67 #[.pointer (some ⟨r, 0, none⟩), .agg #[.int .i64 t.kind, .int .i64 p, .int .i64 q, .int .i64 t.n, .string ⟨t.s.toArray⟩]] w fun e w' => ∃ z : Nat, z ≤ s.size ∧ s.data.toList.drop z = ((s.data.toList.drop q).drop ((nextT (s.data.toList.drop q)).1 + g.len)).drop ((nextT ((s.data.toList.drop q).drop ((nextT (s.data.toList.drop q)).1 + g.len))).1 + u.len) ∧
      e = .returned (.tuple #[.agg #[.int .i64 8, .int .i64 t.n, .int .i64 g.n, .string ⟨#[]⟩, .slice none 0 0, .slice none 0 0], .bool true]) ∧ RdAt w' r s z ∧ Bes r w w' := by
  have HN := Lib.hid (fun W (hW : MaxW W m) (hR : RdAt W r s a) => peek_good r s a q _ g hq hs m W hW hR h rfl)
  obtain ⟨p1, hp1⟩ : ∃ p1, q + (nextT (s.data.toList.drop q)).1 = p1 := ⟨_, rfl⟩
  obtain ⟨q1, hq1⟩ : ∃ q1, p1 + g.len = q1 := ⟨_, rfl⟩
  simp only [hp1, hq1] at HN
  have hq1s : q1 ≤ s.size := by
    have := (nextT_good h).1
    rw [List.length_drop] at this
    have h2 : s.data.toList.length = s.size := rfl
    omega
  have hdd : (s.data.toList.drop q).drop ((nextT (s.data.toList.drop q)).1 + g.len) = s.data.toList.drop q1 := by rw [List.drop_drop]; congr 1; omega
  rw [hdd] at h2
  rw [hdd]
  clear hdd
  obtain ⟨p2, hp2⟩ : ∃ p2, q1 + (nextT (s.data.toList.drop q1)).1 = p2 := ⟨_, rfl⟩
  obtain ⟨q2, hq2⟩ : ∃ q2, p2 + u.len = q2 := ⟨_, rfl⟩
  have HN2 := Lib.hid (fun W (hW : MaxW W m) (hR : RdAt W r s a) => peek_good r s a q1 _ u hq1s hs m W hW hR h2 rfl)
  simp only [hp2, hq2] at HN2
  have hq2s : q2 ≤ s.size := by
    have := (nextT_good h2).1
    rw [List.length_drop] at this
    have h2 : s.data.toList.length = s.size := rfl
    omega
  have HZ := Lib.hid (show s.data.toList.drop q2 = (s.data.toList.drop q1).drop ((nextT (s.data.toList.drop q1)).1 + u.len) by rw [List.drop_drop]; congr 1; omega)
  have HU := Lib.hid (show (u.kind == 5 && u.s == [82]) = true by simp [hu])
  clear h h2 hp1 hq1 hp2 hq2 hu
  have hf0 := hr.frozen 1
  have hc0 := hr.cell1
  have t1 : (g.kind != 1) = false := by simpa using hg.1
  have t2 : decide (g.n < 0) = false := by simp; omega
  have t3 : decide (65535 < g.n) = false := by simp; omega
  have hg2 := hg.2
  clear hg
  have h1 : decide (t.n < 1) = false := by simp; omega
  have h2 : decide (8191 < t.n) = false := by simp; omega
  have hlt := hr.lt
  go_enter Tryz.func67, Tryz.ntmps67
  go_wp2_with fail
  refine (HN.out _ (hm.below (by repeat' (first | (with_reducible exact Below.refl _ _) | (with_reducible refine Below.drew ?_) | (with_reducible refine belowDrewN ?_ _) | (with_reducible refine belowIter ?_ ?_ _ _) | (with_reducible refine Below.setCell ?_ ?_ _) | (with_reducible refine Below.alloc ?_ ?_ _) | (with_reducible refine Below.trans ?_ (Below.mono hb4 ?_)) | (with_reducible refine Below.trans ?_ (Below.mono hb3 ?_)) | (with_reducible refine Below.trans ?_ (Below.mono hb2 ?_)) | (with_reducible refine Below.trans ?_ (Below.mono hb1 ?_)) | (with_reducible refine Below.trans ?_ (Below.mono hbr ?_)) | (with_reducible refine Below.trans ?_ (Below.mono hb ?_)) | (simp; done) | (simp; omega) | omega))) (hr.below (by repeat' (first | (with_reducible exact Below.refl _ _) | (with_reducible refine Below.drew ?_) | (with_reducible refine belowDrewN ?_ _) | (with_reducible refine belowIter ?_ ?_ _ _) | (with_reducible refine Below.setCell ?_ ?_ _) | (with_reducible refine Below.alloc ?_ ?_ _) | (with_reducible refine Below.trans ?_ (Below.mono hb4 ?_)) | (with_reducible refine Below.trans ?_ (Below.mono hb3 ?_)) | (with_reducible refine Below.trans ?_ (Below.mono hb2 ?_)) | (with_reducible refine Below.trans ?_ (Below.mono hb1 ?_)) | (with_reducible refine Below.trans ?_ (Below.mono hbr ?_)) | (with_reducible refine Below.trans ?_ (Below.mono hb ?_)) | (simp; done) | (simp; omega) | omega)))).mono ?_
  rintro e w1 ⟨rfl, hb⟩
  obtain ⟨hc, hf⟩ := bcell hb
  have hz : w.heap.size + 1 < w1.heap.size := by have := hb.size; simp at this; omega
  go_wp2_with fail
  refine (HN2.out _ (hm.below (by repeat' (first | (with_reducible exact Below.refl _ _) | (with_reducible refine Below.drew ?_) | (with_reducible refine belowDrewN ?_ _) | (with_reducible refine belowIter ?_ ?_ _ _) | (with_reducible refine Below.setCell ?_ ?_ _) | (with_reducible refine Below.alloc ?_ ?_ _) | (with_reducible refine Below.trans ?_ (Below.mono hb4 ?_)) | (with_reducible refine Below.trans ?_ (Below.mono hb3 ?_)) | (with_reducible refine Below.trans ?_ (Below.mono hb2 ?_)) | (with_reducible refine Below.trans ?_ (Below.mono hb1 ?_)) | (with_reducible refine Below.trans ?_ (Below.mono hbr ?_)) | (with_reducible refine Below.trans ?_ (Below.mono hb ?_)) | (simp; done) | (simp; omega) | omega))) (hr.below (by repeat' (first | (with_reducible exact Below.refl _ _) | (with_reducible refine Below.drew ?_) | (with_reducible refine belowDrewN ?_ _) | (with_reducible refine belowIter ?_ ?_ _ _) | (with_reducible refine Below.setCell ?_ ?_ _) | (with_reducible refine Below.alloc ?_ ?_ _) | (with_reducible refine Below.trans ?_ (Below.mono hb4 ?_)) | (with_reducible refine Below.trans ?_ (Below.mono hb3 ?_)) | (with_reducible refine Below.trans ?_ (Below.mono hb2 ?_)) | (with_reducible refine Below.trans ?_ (Below.mono hb1 ?_)) | (with_reducible refine Below.trans ?_ (Below.mono hbr ?_)) | (with_reducible refine Below.trans ?_ (Below.mono hb ?_)) | (simp; done) | (simp; omega) | omega)))).mono ?_
  rintro e w2 ⟨rfl, hb2⟩
  obtain ⟨hc2, hf2⟩ := bcell hb2
  have hz2 : w1.heap.size + 1 ≤ w2.heap.size := by have := hb2.size; simp at this; omega
  have a1 : r < w2.heap.size := by omega
  have a2 : w.heap.size < w2.heap.size := by omega
  have a3 : w.heap.size + 1 < w2.heap.size := by omega
  have a4 : w1.heap.size < w2.heap.size := by omega
  have a5 : r < w1.heap.size := by omega
  have a6 : w.heap.size < w1.heap.size := by omega
  go_wp2_with fail
  refine (word_in' _ _ _ _ _ _ [82] true HU.out _).mono ?_
  rintro e w3 ⟨rfl, hb3⟩
  obtain ⟨hc3, hf3⟩ := bcell hb3
  have hz3 : w2.heap.size + 1 ≤ w3.heap.size := by have := hb3.size; simp at this; omega
  have e1 : ¬ r = w.heap.size := by omega
  have e2 : ¬ w.heap.size = r := by omega
  have e3 : ¬ r = w.heap.size + 1 := by omega
  have e4 : ¬ w.heap.size + 1 = r := by omega
  have e5 : ¬ r = w1.heap.size := by omega
  have e6 : ¬ w1.heap.size = r := by omega
  have b1 : r < w2.heap.size + 1 := by omega
  have b2 : w.heap.size < w2.heap.size + 1 := by omega
  have b3 : w.heap.size + 1 < w2.heap.size + 1 := by omega
  have b4 : w1.heap.size < w2.heap.size + 1 := by omega
  have b5 : r < w1.heap.size + 1 := by omega
  have b6 : w.heap.size < w1.heap.size + 1 := by omega
  have b7 : r < w.heap.size + 1 + 1 := by omega
  have f1 : w3.cell? ⟨r, 1, none⟩ = some (.int .i64 a) := by
    rw [hc3 _ _ (by simp; omega)]; simp [go_sem, *]
  have f2 : w3.frozen? ⟨r, 1, none⟩ = false := by
    rw [hf3 _ _ (by simp; omega)]; simp [go_sem, *]
  have f3 : w3.cell? ⟨w2.heap.size, 2, none⟩ = some (.int .i64 q2) := by
    rw [hc3 _ _ (by simp)]; simp [go_sem]
  have f4 : w3.cell? ⟨w.heap.size, 3, none⟩ = some (.int .i64 t.n) := by
    rw [hc3 _ _ (by simp; omega)]; simp [go_sem, *]
  have f5 : w3.cell? ⟨w1.heap.size, 3, none⟩ = some (.int .i64 g.n) := by
    rw [hc3 _ _ (by simp; omega)]; simp [go_sem, *]
  have f6 : ∀ o, w3.cell? ⟨w.heap.size + 1, o, none⟩ = (((w.alloc (.cells #[.int .i64 t.kind, .int .i64 p, .int .i64 q, .int .i64 t.n, .string ⟨t.s.toArray⟩] 52)).alloc (.cells #[.int .i64 0, .int .i64 0, .int .i64 0, .string ⟨#[]⟩, .slice none 0 0, .slice none 0 0] 26))).cell? ⟨w.heap.size + 1, o, none⟩ := fun o => by
    rw [hc3 _ _ (by simp; omega)]; simp [go_sem, *]
  have f7 : ∀ o, w3.frozen? ⟨w.heap.size + 1, o, none⟩ = false := fun o => by
    rw [hf3 _ _ (by simp; omega)]; simp [go_sem, *]
  have hbw : Below w.heap.size w w3 := (by repeat' (first | (with_reducible exact Below.refl _ _) | (with_reducible refine Below.drew ?_) | (with_reducible refine belowDrewN ?_ _) | (with_reducible refine belowIter ?_ ?_ _ _) | (with_reducible refine Below.setCell ?_ ?_ _) | (with_reducible refine Below.alloc ?_ ?_ _) | (with_reducible refine Below.trans ?_ (Below.mono hb4 ?_)) | (with_reducible refine Below.trans ?_ (Below.mono hb3 ?_)) | (with_reducible refine Below.trans ?_ (Below.mono hb2 ?_)) | (with_reducible refine Below.trans ?_ (Below.mono hb1 ?_)) | (with_reducible refine Below.trans ?_ (Below.mono hbr ?_)) | (with_reducible refine Below.trans ?_ (Below.mono hb ?_)) | (simp; done) | (simp; omega) | omega))
  have hR3 : RdAt w3 r s a := hr.below hbw
  clear hc2 hf2 hc3 hf3 hc hf a1 a2 a3 a4 b1 b2 b3 b4 b5 b6 b7
  go_wp2_with fail
  obtain ⟨w5, hw5⟩ : ∃ w5, w3.setCell ⟨r, 1, none⟩ (.int .i64 q2) = w5 := ⟨_, rfl⟩
  have g6 : ∀ o, w5.cell? ⟨w.heap.size + 1, o, none⟩ = w3.cell? ⟨w.heap.size + 1, o, none⟩ := fun o => by
    rw [← hw5]; exact World.cell?_of_block (Below.heap_setCell _ _ _ _ (by show w.heap.size + 1 ≠ r; omega))
  have g7 : ∀ o, w5.frozen? ⟨w.heap.size + 1, o, none⟩ = w3.frozen? ⟨w.heap.size + 1, o, none⟩ := fun o => by
    rw [← hw5]; exact World.frozen?_of_block (Below.heap_setCell _ _ _ _ (by show w.heap.size + 1 ≠ r; omega))
  have hR5 : RdAt w5 r s q2 := by rw [← hw5]; exact hR3.set
  have hs5 : Bes r w w5 := by rw [← hw5]; exact (Bes.of_below hbw).setCell _ _
  have hz5 : w3.heap.size = w5.heap.size := by rw [← hw5]; simp [World.setCell]
  rw [hw5]
  clear hw5 f1 f2 f3 f4 f5
  refine (vref_in _ _ _).mono ?_
  rintro e w6 ⟨rfl, hb6⟩
  have hR6 := hR5.below hb6
  have hs6 : Bes r w w6 := hs5.below hb6
  have h6 : ∀ o, w6.cell? ⟨w.heap.size + 1, o, none⟩ = w5.cell? ⟨w.heap.size + 1, o, none⟩ := fun o => hb6.cell (p := ⟨w.heap.size + 1, o, none⟩) (by show w.heap.size + 1 < _; omega)
  have h7 : ∀ o, w6.frozen? ⟨w.heap.size + 1, o, none⟩ = w5.frozen? ⟨w.heap.size + 1, o, none⟩ := fun o => hb6.frozen (p := ⟨w.heap.size + 1, o, none⟩) (by show w.heap.size + 1 < _; omega)
  have hz6 : w.heap.size + 1 < w6.heap.size := by have := hb6.size; omega
  clear hz5 hb6
  unfold obV
  go_wp2
  refine bodyPost_ret (v := .tuple #[.agg #[.int .i64 8, .int .i64 t.n, .int .i64 g.n, .string ⟨#[]⟩, .slice none 0 0, .slice none 0 0], .bool true]) (by simp [results, Tryz.results67, go_sem, h6, h7, g6, g7, f6, f7]) rfl ⟨q2, hq2s, HZ.out, rfl, hR6.belowB (B := r + 1) (by repeat' (first | (with_reducible exact Below.refl _ _) | (with_reducible refine Below.setCell ?_ ?_ _) | (with_reducible refine Below.alloc ?_ ?_ _) | (show _ ≤ _; simp; done) | (show _ ≤ _; simp; omega) | omega)) (by omega), ?_⟩
  (repeat' (first | (with_reducible exact hs6) | (with_reducible refine Bes.setCell_new ?_ ?_ _) | (show _ ≤ _; simp; done) | (show _ ≤ _; simp; omega) | omega))
end Go.Proofs.YtpadlepdgnlgnaaGreatDoor
