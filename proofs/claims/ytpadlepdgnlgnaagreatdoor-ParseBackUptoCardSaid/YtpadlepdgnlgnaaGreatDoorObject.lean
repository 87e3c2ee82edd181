/- The walk of parse's object reader, given the array's and the dictionary's. -/
import Derived.Test.YtpadlepdgnlgnaaGreatDoorRef
set_option linter.all false
namespace Go.Proofs.YtpadlepdgnlgnaaGreatDoor
open Go.RowKit Fo

/-- What reading an object leaves: a value that reads as it, the reader behind it; or a panic. -/
def RdPost (r : Nat) (s : ByteArray) (d : Nat) (w : World) (R : Res (Ob × L)) (e : Ending) (w' : World) : Prop :=
  match R with
  | .good (o, rest) => ∃ (cs : List Value) (z : Nat), e = .returned (.agg cs.toArray) ∧ z ≤ s.size ∧ rest = s.data.toList.drop z ∧ ObjAt (fun b => w.heap.size ≤ b) d w' cs o ∧ RdAt w' r s z ∧ Bes r w w'
  | .bad k => e = .panicked [{ v := .iface 84 (.int .i64 k), recovered := false }] ∧ Bes r w w'
def ObjC (s : ByteArray) (m : Int) (d : Nat) : Prop := ∀ (r a p : Nat) (t : Tok) (w : World), a ≤ s.size → MaxW w m → RdAt w r s a → p + t.len = a → t.kind ≠ 0 → t.kind ≤ 6 → 0 ≤ t.kind →
  Calls Tryz.prog 36 #[.pointer (some ⟨r, 0, none⟩), .agg #[.int .i64 t.kind, .int .i64 p, .int .i64 a, .int .i64 t.n, .string ⟨t.s.toArray⟩], .int .i64 (24 - (d : Int))] w (RdPost r s (d + 1) w (objS d t (s.data.toList.drop a)))
def arrR (R : Res (List Ob × L)) : Res (Ob × L) :=
  match R with | .bad e => .bad e | .good (ks, r) => .good (.mk 6 0 0 [] [] ks, r)
def dictR (R : Res (List (L × Ob) × L)) : Res (Ob × L) :=
  match R with | .bad e => .bad e | .good (ps, r) => .good (mkDict ps, r)
def ArrC (s : ByteArray) (m : Int) (d : Nat) : Prop := ∀ (r a : Nat) (w : World), a ≤ s.size → MaxW w m → RdAt w r s a →
  Calls Tryz.prog 74 #[.pointer (some ⟨r, 0, none⟩), .int .i64 (24 - (d : Int))] w (RdPost r s (d + 2) w (arrR (arrS (objS d) d ((s.data.toList.drop a).length + 1) (s.data.toList.drop a) [])))
def DictC (s : ByteArray) (m : Int) (d : Nat) : Prop := ∀ (r a : Nat) (w : World), a ≤ s.size → MaxW w m → RdAt w r s a →
  Calls Tryz.prog 75 #[.pointer (some ⟨r, 0, none⟩), .int .i64 (24 - (d : Int))] w (RdPost r s (d + 2) w (dictR (dictS (objS d) ((s.data.toList.drop a).length + 1) (s.data.toList.drop a) [])))

set_option maxRecDepth 100000 in
set_option maxHeartbeats 1000000 in
/-- No object begins so. -/
theorem object_no (r : Nat) (t : Tok) (p q d : Int) (h : beginsS t = false) (w : World) :
    Calls Tryz.prog 36 #[.pointer (some ⟨r, 0, none⟩), .agg #[.int .i64 t.kind, .int .i64 p, .int .i64 q, .int .i64 t.n, .string ⟨t.s.toArray⟩], .int .i64 d] w fun e w' => e = .panicked [{ v := .iface 84 (.int .i64 3), recovered := false }] ∧ Below w.heap.size w w' := by
  have H := Lib.hid h
  clear h
  go_enter Tryz.func36, Tryz.ntmps36
  go_wp2_with fail
  refine (begins_tok t _ _ false H.out _).mono ?_
  rintro e w1 ⟨rfl, hb⟩
  go_wp2
  exact ⟨rfl, rfl, (by repeat' (first | (with_reducible exact Below.refl _ _) | (with_reducible refine Below.drew ?_) | (with_reducible refine belowDrewN ?_ _) | (with_reducible refine belowIter ?_ ?_ _ _) | (with_reducible refine Below.setCell ?_ ?_ _) | (with_reducible refine Below.alloc ?_ ?_ _) | (with_reducible refine Below.trans ?_ (Below.mono hb4 ?_)) | (with_reducible refine Below.trans ?_ (Below.mono hb3 ?_)) | (with_reducible refine Below.trans ?_ (Below.mono hb2 ?_)) | (with_reducible refine Below.trans ?_ (Below.mono hb1 ?_)) | (with_reducible refine Below.trans ?_ (Below.mono hbr ?_)) | (with_reducible refine Below.trans ?_ (Below.mono hb ?_)) | (simp; done) | (simp; omega) | omega))⟩
set_option maxRecDepth 100000 in
set_option maxHeartbeats 1000000 in
/-- Too deep. -/
theorem object_deep (r : Nat) (t : Tok) (p q : Int) (h : beginsS t = true) (w : World) :
    Calls Tryz.prog 36 #[.pointer (some ⟨r, 0, none⟩), .agg #[.int .i64 t.kind, .int .i64 p, .int .i64 q, .int .i64 t.n, .string ⟨t.s.toArray⟩], .int .i64 24] w fun e w' => e = .panicked [{ v := .iface 84 (.int .i64 7), recovered := false }] ∧ Below w.heap.size w w' := by
  have H := Lib.hid h
  clear h
  go_enter Tryz.func36, Tryz.ntmps36
  go_wp2_with fail
  refine (begins_tok t _ _ true H.out _).mono ?_
  rintro e w1 ⟨rfl, hb⟩
  go_wp2
  exact ⟨rfl, rfl, (by repeat' (first | (with_reducible exact Below.refl _ _) | (with_reducible refine Below.drew ?_) | (with_reducible refine belowDrewN ?_ _) | (with_reducible refine belowIter ?_ ?_ _ _) | (with_reducible refine Below.setCell ?_ ?_ _) | (with_reducible refine Below.alloc ?_ ?_ _) | (with_reducible refine Below.trans ?_ (Below.mono hb4 ?_)) | (with_reducible refine Below.trans ?_ (Below.mono hb3 ?_)) | (with_reducible refine Below.trans ?_ (Below.mono hb2 ?_)) | (with_reducible refine Below.trans ?_ (Below.mono hb1 ?_)) | (with_reducible refine Below.trans ?_ (Below.mono hbr ?_)) | (with_reducible refine Below.trans ?_ (Below.mono hb ?_)) | (simp; done) | (simp; omega) | omega))⟩
set_option maxRecDepth 100000 in
set_option maxHeartbeats 1000000 in
theorem object_real (r : Nat) (t : Tok) (p q d : Int) (hd0 : d < 24) (h : beginsS t = true) (w : World) (hk : t.kind = 2) :
    Calls Tryz.prog 36 #[.pointer (some ⟨r, 0, none⟩), .agg #[.int .i64 t.kind, .int .i64 p, .int .i64 q, .int .i64 t.n, .string ⟨t.s.toArray⟩], .int .i64 d] w fun e w' => e = .returned (obV 3 t.n 0 []) ∧ Below w.heap.size w w' := by
  have t1 : (t.kind == 1) = false := by simp [hk]
  have t2 : (t.kind == 2) = true := by simp [hk]
  clear hk
  have H := Lib.hid h
  clear h
  have hd : decide (24 ≤ d) = false := by simp; omega
  go_enter Tryz.func36, Tryz.ntmps36
  go_wp2_with fail
  refine (begins_tok t _ _ true H.out _).mono ?_
  rintro e w1 ⟨rfl, hb⟩
  obtain ⟨hc, hf⟩ := bcell hb
  have hz : w.heap.size + 1 < w1.heap.size := by have := hb.size; simp at this; omega
  go_wp2_with fail
  refine (vreal_in _ _).mono ?_
  rintro e w2 ⟨rfl, hb2⟩
  obtain ⟨hc2, hf2⟩ := bcell hb2
  have hz2 : w.heap.size + 1 < w2.heap.size := by have := hb2.size; omega
  unfold obV
  go_wp2
  refine bodyPost_ret (v := obV 3 t.n 0 []) (by simp [results, Tryz.results36, go_sem, hc2, hf2, hc, hf, hz, obV]) rfl ⟨rfl, (by repeat' (first | (with_reducible exact Below.refl _ _) | (with_reducible refine Below.drew ?_) | (with_reducible refine belowDrewN ?_ _) | (with_reducible refine belowIter ?_ ?_ _ _) | (with_reducible refine Below.setCell ?_ ?_ _) | (with_reducible refine Below.alloc ?_ ?_ _) | (with_reducible refine Below.trans ?_ (Below.mono hb4 ?_)) | (with_reducible refine Below.trans ?_ (Below.mono hb3 ?_)) | (with_reducible refine Below.trans ?_ (Below.mono hb2 ?_)) | (with_reducible refine Below.trans ?_ (Below.mono hb1 ?_)) | (with_reducible refine Below.trans ?_ (Below.mono hbr ?_)) | (with_reducible refine Below.trans ?_ (Below.mono hb ?_)) | (simp; done) | (simp; omega) | omega))⟩
set_option maxRecDepth 100000 in
set_option maxHeartbeats 1000000 in
theorem object_str (r : Nat) (t : Tok) (p q d : Int) (hd0 : d < 24) (h : beginsS t = true) (w : World) (hk : t.kind = 3) :
    Calls Tryz.prog 36 #[.pointer (some ⟨r, 0, none⟩), .agg #[.int .i64 t.kind, .int .i64 p, .int .i64 q, .int .i64 t.n, .string ⟨t.s.toArray⟩], .int .i64 d] w fun e w' => e = .returned (obV 4 0 0 t.s) ∧ Below w.heap.size w w' := by
  have t1 : (t.kind == 1) = false := by simp [hk]
  have t2 : (t.kind == 2) = false := by simp [hk]
  have t3 : (t.kind == 3) = true := by simp [hk]
  clear hk
  have H := Lib.hid h
  clear h
  have hd : decide (24 ≤ d) = false := by simp; omega
  go_enter Tryz.func36, Tryz.ntmps36
  go_wp2_with fail
  refine (begins_tok t _ _ true H.out _).mono ?_
  rintro e w1 ⟨rfl, hb⟩
  obtain ⟨hc, hf⟩ := bcell hb
  have hz : w.heap.size + 1 < w1.heap.size := by have := hb.size; simp at this; omega
  go_wp2_with fail
  refine (vstr_in _ _).mono ?_
  rintro e w2 ⟨rfl, hb2⟩
  obtain ⟨hc2, hf2⟩ := bcell hb2
  have hz2 : w.heap.size + 1 < w2.heap.size := by have := hb2.size; omega
  unfold obV
  go_wp2
  refine bodyPost_ret (v := obV 4 0 0 t.s) (by simp [results, Tryz.results36, go_sem, hc2, hf2, hc, hf, hz, obV]) rfl ⟨rfl, (by repeat' (first | (with_reducible exact Below.refl _ _) | (with_reducible refine Below.drew ?_) | (with_reducible refine belowDrewN ?_ _) | (with_reducible refine belowIter ?_ ?_ _ _) | (with_reducible refine Below.setCell ?_ ?_ _) | (with_reducible refine Below.alloc ?_ ?_ _) | (with_reducible refine Below.trans ?_ (Below.mono hb4 ?_)) | (with_reducible refine Below.trans ?_ (Below.mono hb3 ?_)) | (with_reducible refine Below.trans ?_ (Below.mono hb2 ?_)) | (with_reducible refine Below.trans ?_ (Below.mono hb1 ?_)) | (with_reducible refine Below.trans ?_ (Below.mono hbr ?_)) | (with_reducible refine Below.trans ?_ (Below.mono hb ?_)) | (simp; done) | (simp; omega) | omega))⟩
set_option maxRecDepth 100000 in
set_option maxHeartbeats 1000000 in
theorem object_name (r : Nat) (t : Tok) (p q d : Int) (hd0 : d < 24) (h : beginsS t = true) (w : World) (hk : t.kind = 4) :
    Calls Tryz.prog 36 #[.pointer (some ⟨r, 0, none⟩), .agg #[.int .i64 t.kind, .int .i64 p, .int .i64 q, .int .i64 t.n, .string ⟨t.s.toArray⟩], .int .i64 d] w fun e w' => e = .returned (obV 5 0 0 t.s) ∧ Below w.heap.size w w' := by
  have t1 : (t.kind == 1) = false := by simp [hk]
  have t2 : (t.kind == 2) = false := by simp [hk]
  have t3 : (t.kind == 3) = false := by simp [hk]
  have t4 : (t.kind == 4) = true := by simp [hk]
  clear hk
  have H := Lib.hid h
  clear h
  have hd : decide (24 ≤ d) = false := by simp; omega
  go_enter Tryz.func36, Tryz.ntmps36
  go_wp2_with fail
  refine (begins_tok t _ _ true H.out _).mono ?_
  rintro e w1 ⟨rfl, hb⟩
  obtain ⟨hc, hf⟩ := bcell hb
  have hz : w.heap.size + 1 < w1.heap.size := by have := hb.size; simp at this; omega
  go_wp2_with fail
  refine (vname_in _ _).mono ?_
  rintro e w2 ⟨rfl, hb2⟩
  obtain ⟨hc2, hf2⟩ := bcell hb2
  have hz2 : w.heap.size + 1 < w2.heap.size := by have := hb2.size; omega
  unfold obV
  go_wp2
  refine bodyPost_ret (v := obV 5 0 0 t.s) (by simp [results, Tryz.results36, go_sem, hc2, hf2, hc, hf, hz, obV]) rfl ⟨rfl, (by repeat' (first | (with_reducible exact Below.refl _ _) | (with_reducible refine Below.drew ?_) | (with_reducible refine belowDrewN ?_ _) | (with_reducible refine belowIter ?_ ?_ _ _) | (with_reducible refine Below.setCell ?_ ?_ _) | (with_reducible refine Below.alloc ?_ ?_ _) | (with_reducible refine Below.trans ?_ (Below.mono hb4 ?_)) | (with_reducible refine Below.trans ?_ (Below.mono hb3 ?_)) | (with_reducible refine Below.trans ?_ (Below.mono hb2 ?_)) | (with_reducible refine Below.trans ?_ (Below.mono hb1 ?_)) | (with_reducible refine Below.trans ?_ (Below.mono hbr ?_)) | (with_reducible refine Below.trans ?_ (Below.mono hb ?_)) | (simp; done) | (simp; omega) | omega))⟩

theorem ref_none (r : Nat) (s : ByteArray) (a q : Nat) (t : Tok) (p : Int) (hq : q ≤ s.size) (hs : s.size ≤ 140737488355327) (m : Int) (w : World) (hm : MaxW w m) (hr : RdAt w r s a)
    (h : refS t (s.data.toList.drop q) = none) :
    Calls Tryz.prog 67 #[.pointer (some ⟨r, 0, none⟩), .agg #[.int .i64 t.kind, .int .i64 p, .int .i64 q, .int .i64 t.n, .string ⟨t.s.toArray⟩]] w fun e w' => e = .returned (.tuple #[.agg #[.int .i64 0, .int .i64 0, .int .i64 0, .string ⟨#[]⟩, .slice none 0 0, .slice none 0 0], .bool false]) ∧ Below w.heap.size w w' := by
  unfold refS at h
  by_cases h0 : t.n < 1 ∨ 8191 < t.n
  · exact ref_num r t p q h0 w
  · rw [if_neg h0] at h
    have hn : 1 ≤ t.n ∧ t.n ≤ 8191 := by omega
    cases h1 : (nextT (s.data.toList.drop q)).2 with
    | bad k => exact ref_lex1 r s a q t p k hq hs m w hm hr hn h1
    | good g =>
      rw [h1] at h
      dsimp only at h
      by_cases h2 : g.kind ≠ 1 ∨ g.n < 0 ∨ 65535 < g.n
      · exact ref_gen r s a q t p hq hs m w hm hr hn g h1 h2
      · rw [if_neg h2] at h
        have hg : g.kind = 1 ∧ 0 ≤ g.n ∧ g.n ≤ 65535 := by omega
        cases h3 : (nextT ((s.data.toList.drop q).drop ((nextT (s.data.toList.drop q)).1 + g.len))).2 with
        | bad k => exact ref_lex2 r s a q t p hq hs m w hm hr hn g h1 hg k h3
        | good u =>
          rw [h3] at h
          dsimp only at h
          by_cases h4 : u.kind = 5 ∧ u.s = [82]
          · rw [if_pos h4] at h; cases h
          · exact ref_word r s a q t p hq hs m w hm hr hn g h1 hg u h3 h4
theorem ref_some (r : Nat) (s : ByteArray) (a q : Nat) (t : Tok) (p : Int) (hq : q ≤ s.size) (hs : s.size ≤ 140737488355327) (m : Int) (w : World) (hm : MaxW w m) (hr : RdAt w r s a)
    (gn : Int) (rest : L) (h : refS t (s.data.toList.drop q) = some (gn, rest)) :
    Calls Tryz.prog 67 #[.pointer (some ⟨r, 0, none⟩), .agg #[.int .i64 t.kind, .int .i64 p, .int .i64 q, .int .i64 t.n, .string ⟨t.s.toArray⟩]] w fun e w' => ∃ z : Nat, z ≤ s.size ∧ s.data.toList.drop z = rest ∧
      e = .returned (.tuple #[.agg #[.int .i64 8, .int .i64 t.n, .int .i64 gn, .string ⟨#[]⟩, .slice none 0 0, .slice none 0 0], .bool true]) ∧ RdAt w' r s z ∧ Bes r w w' := by
  unfold refS at h
  by_cases h0 : t.n < 1 ∨ 8191 < t.n
  · rw [if_pos h0] at h; cases h
  · rw [if_neg h0] at h
    have hn : 1 ≤ t.n ∧ t.n ≤ 8191 := by omega
    cases h1 : (nextT (s.data.toList.drop q)).2 with
    | bad k => rw [h1] at h; cases h
    | good g =>
      rw [h1] at h
      dsimp only at h
      by_cases h2 : g.kind ≠ 1 ∨ g.n < 0 ∨ 65535 < g.n
      · rw [if_pos h2] at h; cases h
      · rw [if_neg h2] at h
        have hg : g.kind = 1 ∧ 0 ≤ g.n ∧ g.n ≤ 65535 := by omega
        cases h3 : (nextT ((s.data.toList.drop q).drop ((nextT (s.data.toList.drop q)).1 + g.len))).2 with
        | bad k => rw [h3] at h; cases h
        | good u =>
          rw [h3] at h
          dsimp only at h
          by_cases h4 : u.kind = 5 ∧ u.s = [82]
          · rw [if_pos h4] at h
            have := ref_good r s a q t p hq hs m w hm hr hn g h1 hg u h3 h4
            simp only [Option.some.injEq, Prod.mk.injEq] at h
            rw [← h.1, ← h.2]; exact this
          · rw [if_neg h4] at h; cases h
set_option maxRecDepth 100000 in
set_option maxHeartbeats 1000000 in
theorem object_int (s : ByteArray) (a : Nat) (q : Nat) (r : Nat) (t : Tok) (p d : Int) (hd0 : d < 24) (h : beginsS t = true) (w : World) (hq : q ≤ s.size) (hs : s.size ≤ 140737488355327) (m : Int) (hm : MaxW w m) (hr : RdAt w r s a)
    (hk : t.kind = 1) (hn : refS t (s.data.toList.drop q) = none) :
    Calls Tryz.prog 36 #[.pointer (some ⟨r, 0, none⟩), .agg #[.int .i64 t.kind, .int .i64 p, .int .i64 q, .int .i64 t.n, .string ⟨t.s.toArray⟩], .int .i64 d] w fun e w' => e = .returned (obV 2 t.n 0 []) ∧ Below w.heap.size w w' := by
  have t1 : (t.kind == 1) = true := by simp [hk]
  have HR := Lib.hid (fun W hW hR => ref_none r s a q t p hq hs m W hW hR hn)
  clear hk hn
  have H := Lib.hid h
  clear h
  have hd : decide (24 ≤ d) = false := by simp; omega
  go_enter Tryz.func36, Tryz.ntmps36
  go_wp2_with fail
  refine (begins_tok t _ _ true H.out _).mono ?_
  rintro e w1 ⟨rfl, hb⟩
  obtain ⟨hc, hf⟩ := bcell hb
  have hz : w.heap.size + 1 < w1.heap.size := by have := hb.size; simp at this; omega
  go_wp2_with fail
  refine (HR.out _ (hm.below (by repeat' (first | (with_reducible exact Below.refl _ _) | (with_reducible refine Below.drew ?_) | (with_reducible refine belowDrewN ?_ _) | (with_reducible refine belowIter ?_ ?_ _ _) | (with_reducible refine Below.setCell ?_ ?_ _) | (with_reducible refine Below.alloc ?_ ?_ _) | (with_reducible refine Below.trans ?_ (Below.mono hb4 ?_)) | (with_reducible refine Below.trans ?_ (Below.mono hb3 ?_)) | (with_reducible refine Below.trans ?_ (Below.mono hb2 ?_)) | (with_reducible refine Below.trans ?_ (Below.mono hb1 ?_)) | (with_reducible refine Below.trans ?_ (Below.mono hbr ?_)) | (with_reducible refine Below.trans ?_ (Below.mono hb ?_)) | (simp; done) | (simp; omega) | omega))) (hr.below (by repeat' (first | (with_reducible exact Below.refl _ _) | (with_reducible refine Below.drew ?_) | (with_reducible refine belowDrewN ?_ _) | (with_reducible refine belowIter ?_ ?_ _ _) | (with_reducible refine Below.setCell ?_ ?_ _) | (with_reducible refine Below.alloc ?_ ?_ _) | (with_reducible refine Below.trans ?_ (Below.mono hb4 ?_)) | (with_reducible refine Below.trans ?_ (Below.mono hb3 ?_)) | (with_reducible refine Below.trans ?_ (Below.mono hb2 ?_)) | (with_reducible refine Below.trans ?_ (Below.mono hb1 ?_)) | (with_reducible refine Below.trans ?_ (Below.mono hbr ?_)) | (with_reducible refine Below.trans ?_ (Below.mono hb ?_)) | (simp; done) | (simp; omega) | omega)))).mono ?_
  rintro e w2 ⟨rfl, hb2⟩
  obtain ⟨hc2, hf2⟩ := bcell hb2
  have hz2 : w.heap.size + 1 < w2.heap.size := by have := hb2.size; omega
  have hz2' : w.heap.size < w2.heap.size := by omega
  have hz1' : w.heap.size < w1.heap.size := by omega
  go_wp2_with fail
  refine (vint_in _ _).mono ?_
  rintro e w3 ⟨rfl, hb3⟩
  obtain ⟨hc3, hf3⟩ := bcell hb3
  have hz3 : w.heap.size + 1 < w2.heap.size + 1 := by omega
  have hz4 : w.heap.size + 2 ≤ w3.heap.size := by have := hb3.size; simp at this; omega
  unfold obV
  go_wp2
  refine bodyPost_ret (v := obV 2 t.n 0 []) (by simp [results, Tryz.results36, go_sem, hc3, hf3, hc2, hf2, hc, hf, hz, hz2, hz3, obV]) rfl ⟨rfl, (by repeat' (first | (with_reducible exact Below.refl _ _) | (with_reducible refine Below.drew ?_) | (with_reducible refine belowDrewN ?_ _) | (with_reducible refine belowIter ?_ ?_ _ _) | (with_reducible refine Below.setCell ?_ ?_ _) | (with_reducible refine Below.alloc ?_ ?_ _) | (with_reducible refine Below.trans ?_ (Below.mono hb4 ?_)) | (with_reducible refine Below.trans ?_ (Below.mono hb3 ?_)) | (with_reducible refine Below.trans ?_ (Below.mono hb2 ?_)) | (with_reducible refine Below.trans ?_ (Below.mono hb1 ?_)) | (with_reducible refine Below.trans ?_ (Below.mono hbr ?_)) | (with_reducible refine Below.trans ?_ (Below.mono hb ?_)) | (simp; done) | (simp; omega) | omega))⟩
set_option maxRecDepth 100000 in
set_option maxHeartbeats 1000000 in
theorem object_ref (s : ByteArray) (a : Nat) (q : Nat) (r : Nat) (t : Tok) (p d : Int) (hd0 : d < 24) (h : beginsS t = true) (w : World) (hq : q ≤ s.size) (hs : s.size ≤ 140737488355327) (m : Int) (hm : MaxW w m) (hr : RdAt w r s a)
    (hk : t.kind = 1) (gn : Int) (rest : L) (hn : refS t (s.data.toList.drop q) = some (gn, rest)) :
    Calls Tryz.prog 36 #[.pointer (some ⟨r, 0, none⟩), .agg #[.int .i64 t.kind, .int .i64 p, .int .i64 q, .int .i64 t.n, .string ⟨t.s.toArray⟩], .int .i64 d] w fun e w' => ∃ z : Nat, z ≤ s.size ∧ s.data.toList.drop z = rest ∧ e = .returned (obV 8 t.n gn []) ∧ RdAt w' r s z ∧ Bes r w w' := by
  have t1 : (t.kind == 1) = true := by simp [hk]
  have HR := Lib.hid (fun W hW hR => ref_some r s a q t p hq hs m W hW hR gn rest hn)
  have hlt := hr.lt
  clear hk hn
  have H := Lib.hid h
  clear h
  have hd : decide (24 ≤ d) = false := by simp; omega
  go_enter Tryz.func36, Tryz.ntmps36
  go_wp2_with fail
  refine (begins_tok t _ _ true H.out _).mono ?_
  rintro e w1 ⟨rfl, hb⟩
  obtain ⟨hc, hf⟩ := bcell hb
  have hz : w.heap.size + 1 < w1.heap.size := by have := hb.size; simp at this; omega
  go_wp2_with fail
  refine (HR.out _ (hm.below (by repeat' (first | (with_reducible exact Below.refl _ _) | (with_reducible refine Below.drew ?_) | (with_reducible refine belowDrewN ?_ _) | (with_reducible refine belowIter ?_ ?_ _ _) | (with_reducible refine Below.setCell ?_ ?_ _) | (with_reducible refine Below.alloc ?_ ?_ _) | (with_reducible refine Below.trans ?_ (Below.mono hb4 ?_)) | (with_reducible refine Below.trans ?_ (Below.mono hb3 ?_)) | (with_reducible refine Below.trans ?_ (Below.mono hb2 ?_)) | (with_reducible refine Below.trans ?_ (Below.mono hb1 ?_)) | (with_reducible refine Below.trans ?_ (Below.mono hbr ?_)) | (with_reducible refine Below.trans ?_ (Below.mono hb ?_)) | (simp; done) | (simp; omega) | omega))) (hr.below (by repeat' (first | (with_reducible exact Below.refl _ _) | (with_reducible refine Below.drew ?_) | (with_reducible refine belowDrewN ?_ _) | (with_reducible refine belowIter ?_ ?_ _ _) | (with_reducible refine Below.setCell ?_ ?_ _) | (with_reducible refine Below.alloc ?_ ?_ _) | (with_reducible refine Below.trans ?_ (Below.mono hb4 ?_)) | (with_reducible refine Below.trans ?_ (Below.mono hb3 ?_)) | (with_reducible refine Below.trans ?_ (Below.mono hb2 ?_)) | (with_reducible refine Below.trans ?_ (Below.mono hb1 ?_)) | (with_reducible refine Below.trans ?_ (Below.mono hbr ?_)) | (with_reducible refine Below.trans ?_ (Below.mono hb ?_)) | (simp; done) | (simp; omega) | omega)))).mono ?_
  rintro e w2 ⟨z, hz1, hz2, rfl, hR2, hs2⟩
  have hr0 : ∀ o, w2.cell? ⟨w.heap.size + 1, o, none⟩ = w1.cell? ⟨w.heap.size + 1, o, none⟩ := fun o => World.cell?_of_block (hs2.block _ (by show w.heap.size + 1 < _; omega) (by show w.heap.size + 1 ≠ r; omega))
  have hr1 : ∀ o, w2.frozen? ⟨w.heap.size + 1, o, none⟩ = w1.frozen? ⟨w.heap.size + 1, o, none⟩ := fun o => World.frozen?_of_block (hs2.block _ (by show w.heap.size + 1 < _; omega) (by show w.heap.size + 1 ≠ r; omega))
  have hz3 : w.heap.size + 1 < w2.heap.size := by have := hs2.size; omega
  have HZ := Lib.hid hz2
  have hbw1 : Below w.heap.size w w1 := (by repeat' (first | (with_reducible exact Below.refl _ _) | (with_reducible refine Below.drew ?_) | (with_reducible refine belowDrewN ?_ _) | (with_reducible refine belowIter ?_ ?_ _ _) | (with_reducible refine Below.setCell ?_ ?_ _) | (with_reducible refine Below.alloc ?_ ?_ _) | (with_reducible refine Below.trans ?_ (Below.mono hb4 ?_)) | (with_reducible refine Below.trans ?_ (Below.mono hb3 ?_)) | (with_reducible refine Below.trans ?_ (Below.mono hb2 ?_)) | (with_reducible refine Below.trans ?_ (Below.mono hb1 ?_)) | (with_reducible refine Below.trans ?_ (Below.mono hbr ?_)) | (with_reducible refine Below.trans ?_ (Below.mono hb ?_)) | (simp; done) | (simp; omega) | omega))
  have hs3 : Bes r w w2 := (Bes.of_below hbw1).trans hs2
  clear hz2 hs2
  go_wp2
  refine bodyPost_ret (v := obV 8 t.n gn []) (by simp [results, Tryz.results36, go_sem, hr0, hr1, hc, hf, hz, hz3, obV]) rfl ⟨z, hz1, HZ.out, rfl, hR2.belowB (B := r + 1) (by repeat' (first | (with_reducible exact Below.refl _ _) | (with_reducible refine Below.setCell ?_ ?_ _) | (with_reducible refine Below.alloc ?_ ?_ _) | (show _ ≤ _; simp; done) | (show _ ≤ _; simp; omega) | omega)) (by omega), ?_⟩
  (repeat' (first | (with_reducible exact hs3) | (with_reducible refine Bes.setCell_new ?_ ?_ _) | (with_reducible refine Bes.alloc ?_ _) | (show _ ≤ _; simp; done) | (show _ ≤ _; simp; omega) | omega))
theorem vbool_as (b : Bool) (x : Int) (h : (if b then (1 : Int) else 0) = x) (w : World) : Calls Tryz.prog 73 #[.bool b] w fun e w' => e = .returned (obV 1 x 0 []) ∧ Below w.heap.size w w' := h ▸ vbool_in b w
set_option maxRecDepth 100000 in
set_option maxHeartbeats 1000000 in
theorem object_null (r : Nat) (t : Tok) (p q d : Int) (hd0 : d < 24) (h : beginsS t = true) (w : World) (hk : t.kind = 5) (hn : t.s = wNull) :
    Calls Tryz.prog 36 #[.pointer (some ⟨r, 0, none⟩), .agg #[.int .i64 t.kind, .int .i64 p, .int .i64 q, .int .i64 t.n, .string ⟨t.s.toArray⟩], .int .i64 d] w fun e w' => e = .returned (obV 0 0 0 []) ∧ Below w.heap.size w w' := by
  have t1 : (t.kind == 1) = false := by simp [hk]
  have t2 : (t.kind == 2) = false := by simp [hk]
  have t3 : (t.kind == 3) = false := by simp [hk]
  have t4 : (t.kind == 4) = false := by simp [hk]
  have t5 : (t.kind == 5) = true := by simp [hk]
  have hn' : (t.s == [110, 117, 108, 108]) = true := by rw [hn]; decide
  clear hk hn
  have H := Lib.hid h
  clear h
  have hd : decide (24 ≤ d) = false := by simp; omega
  go_enter Tryz.func36, Tryz.ntmps36
  go_wp2_with fail
  refine (begins_tok t _ _ true H.out _).mono ?_
  rintro e w1 ⟨rfl, hb⟩
  obtain ⟨hc, hf⟩ := bcell hb
  have hz : w.heap.size + 1 < w1.heap.size := by have := hb.size; simp at this; omega
  go_wp2_with fail
  refine (vnull_in _).mono ?_
  rintro e w2 ⟨rfl, hb2⟩
  obtain ⟨hc2, hf2⟩ := bcell hb2
  have hz2 : w.heap.size + 1 < w2.heap.size := by have := hb2.size; omega
  unfold obV
  go_wp2
  refine bodyPost_ret (v := obV 0 0 0 []) (by simp [results, Tryz.results36, go_sem, hc2, hf2, hc, hf, hz, obV]) rfl ⟨rfl, (by repeat' (first | (with_reducible exact Below.refl _ _) | (with_reducible refine Below.drew ?_) | (with_reducible refine belowDrewN ?_ _) | (with_reducible refine belowIter ?_ ?_ _ _) | (with_reducible refine Below.setCell ?_ ?_ _) | (with_reducible refine Below.alloc ?_ ?_ _) | (with_reducible refine Below.trans ?_ (Below.mono hb4 ?_)) | (with_reducible refine Below.trans ?_ (Below.mono hb3 ?_)) | (with_reducible refine Below.trans ?_ (Below.mono hb2 ?_)) | (with_reducible refine Below.trans ?_ (Below.mono hb1 ?_)) | (with_reducible refine Below.trans ?_ (Below.mono hbr ?_)) | (with_reducible refine Below.trans ?_ (Below.mono hb ?_)) | (simp; done) | (simp; omega) | omega))⟩
set_option maxRecDepth 100000 in
set_option maxHeartbeats 1000000 in
theorem object_bool (r : Nat) (t : Tok) (p q d : Int) (hd0 : d < 24) (h : beginsS t = true) (w : World) (hk : t.kind = 5) (hn : ¬ t.s = wNull) :
    Calls Tryz.prog 36 #[.pointer (some ⟨r, 0, none⟩), .agg #[.int .i64 t.kind, .int .i64 p, .int .i64 q, .int .i64 t.n, .string ⟨t.s.toArray⟩], .int .i64 d] w fun e w' => e = .returned (obV 1 (if t.s == wTrue then 1 else 0) 0 []) ∧ Below w.heap.size w w' := by
  have t1 : (t.kind == 1) = false := by simp [hk]
  have t2 : (t.kind == 2) = false := by simp [hk]
  have t3 : (t.kind == 3) = false := by simp [hk]
  have t4 : (t.kind == 4) = false := by simp [hk]
  have t5 : (t.kind == 5) = true := by simp [hk]
  have hn' : (t.s == [110, 117, 108, 108]) = false := by simpa [wNull] using hn
  clear hk hn
  obtain ⟨x, hx⟩ : ∃ x : Int, (if (t.s == wTrue) then (1 : Int) else 0) = x := ⟨_, rfl⟩
  rw [hx]
  have HB := Lib.hid hx
  clear hx
  have H := Lib.hid h
  clear h
  have hd : decide (24 ≤ d) = false := by simp; omega
  go_enter Tryz.func36, Tryz.ntmps36
  go_wp2_with fail
  refine (begins_tok t _ _ true H.out _).mono ?_
  rintro e w1 ⟨rfl, hb⟩
  obtain ⟨hc, hf⟩ := bcell hb
  have hz : w.heap.size + 1 < w1.heap.size := by have := hb.size; simp at this; omega
  go_wp2_with fail
  refine (vbool_as (t.s == [116, 114, 117, 101]) x HB.out _).mono ?_
  rintro e w2 ⟨rfl, hb2⟩
  obtain ⟨hc2, hf2⟩ := bcell hb2
  have hz2 : w.heap.size + 1 < w2.heap.size := by have := hb2.size; omega
  unfold obV
  go_wp2
  refine bodyPost_ret (v := obV 1 x 0 []) (by simp [results, Tryz.results36, go_sem, hc2, hf2, hc, hf, hz, obV]) rfl ⟨rfl, (by repeat' (first | (with_reducible exact Below.refl _ _) | (with_reducible refine Below.drew ?_) | (with_reducible refine belowDrewN ?_ _) | (with_reducible refine belowIter ?_ ?_ _ _) | (with_reducible refine Below.setCell ?_ ?_ _) | (with_reducible refine Below.alloc ?_ ?_ _) | (with_reducible refine Below.trans ?_ (Below.mono hb4 ?_)) | (with_reducible refine Below.trans ?_ (Below.mono hb3 ?_)) | (with_reducible refine Below.trans ?_ (Below.mono hb2 ?_)) | (with_reducible refine Below.trans ?_ (Below.mono hb1 ?_)) | (with_reducible refine Below.trans ?_ (Below.mono hbr ?_)) | (with_reducible refine Below.trans ?_ (Below.mono hb ?_)) | (simp; done) | (simp; omega) | omega))⟩
end Go.Proofs.YtpadlepdgnlgnaaGreatDoor
