/- The walks of parse.read, Object and Whole. -/
import Derived.Test.YtpadlepdgnlgnaaGreatDoorParse
import Derived.Test.YtpadlepdgnlgnaaGreatDoorFace
set_option linter.all false
namespace Go.Proofs.YtpadlepdgnlgnaaGreatDoor
open Go.RowKit Fo

theorem heap_drew (w : World) (b : Nat) : w.drew.heap[b]? = w.heap[b]? := rfl
def ReadPost (r : Nat) (s : ByteArray) (w : World) (R : Res (Ob × L)) (e : Ending) (w' : World) : Prop :=
  match R with
  | .good (o, rest) => ∃ (p1 : Option Addr) (n1 c1 : Nat) (p2 : Option Addr) (n2 c2 z : Nat), e = .returned (.tuple #[.agg #[.int .i64 o.kind, .int .i64 o.n, .int .i64 o.g, .string ⟨o.s.toArray⟩, .slice p1 n1 c1, .slice p2 n2 c2], .int .i64 0]) ∧ z ≤ s.size ∧ rest = s.data.toList.drop z ∧
      ObjAt (fun b => w.heap.size ≤ b) 25 w' (objCells o.kind o.n o.g o.s (.slice p1 n1 c1) (.slice p2 n2 c2)) o ∧ RdAt w' r s z ∧ Bes r w w'
  | .bad k => e = .returned (.tuple #[.agg #[.int .i64 0, .int .i64 0, .int .i64 0, .string ⟨#[]⟩, .slice none 0 0, .slice none 0 0], .int .i64 k]) ∧ Bes r w w'
/-- What reading comes to once the token is there. -/
theorem readS_good {l r : L} {t : Tok} (h : nextS l = .good (t, r)) : readS l = objS 24 t r := by unfold readS; rw [h]
theorem readS_bad {l : L} {k : Int} (h : nextS l = .bad k) : readS l = .bad k := by unfold readS; rw [h]
set_option maxRecDepth 100000 in
set_option maxHeartbeats 1000000 in
theorem rread_bad (r : Nat) (s : ByteArray) (a : Nat) (k : Int) (ha : a ≤ s.size) (hs : s.size ≤ 140737488355327) (m : Int) (w : World) (hm : MaxW w m) (hr : RdAt w r s a) (h : nextS (s.data.toList.drop a) = .bad k) :
    Calls Tryz.prog 22 #[.pointer (some ⟨r, 0, none⟩)] w fun e w' => e = .returned (.tuple #[.agg #[.int .i64 0, .int .i64 0, .int .i64 0, .string ⟨#[]⟩, .slice none 0 0, .slice none 0 0], .int .i64 k]) ∧ Bes r w w' := by
  have HN := Lib.hid (fun W hm hr => rnext_bad r s a k ha hs m W hm hr h)
  have hlt := hr.lt
  clear h
  go_enter_defers Tryz.func22, Tryz.ntmps22
  go_wp2_with fail
  refine (HN.out _ (hm.below (by repeat' (first | (with_reducible exact Below.refl _ _) | (with_reducible refine Below.drew ?_) | (with_reducible refine belowDrewN ?_ _) | (with_reducible refine belowIter ?_ ?_ _ _) | (with_reducible refine Below.setCell ?_ ?_ _) | (with_reducible refine Below.alloc ?_ ?_ _) | (with_reducible refine Below.trans ?_ (Below.mono hb4 ?_)) | (with_reducible refine Below.trans ?_ (Below.mono hb3 ?_)) | (with_reducible refine Below.trans ?_ (Below.mono hb2 ?_)) | (with_reducible refine Below.trans ?_ (Below.mono hb1 ?_)) | (with_reducible refine Below.trans ?_ (Below.mono hbr ?_)) | (with_reducible refine Below.trans ?_ (Below.mono hb ?_)) | (simp; done) | (simp; omega) | omega))) (hr.below (by repeat' (first | (with_reducible exact Below.refl _ _) | (with_reducible refine Below.drew ?_) | (with_reducible refine belowDrewN ?_ _) | (with_reducible refine belowIter ?_ ?_ _ _) | (with_reducible refine Below.setCell ?_ ?_ _) | (with_reducible refine Below.alloc ?_ ?_ _) | (with_reducible refine Below.trans ?_ (Below.mono hb4 ?_)) | (with_reducible refine Below.trans ?_ (Below.mono hb3 ?_)) | (with_reducible refine Below.trans ?_ (Below.mono hb2 ?_)) | (with_reducible refine Below.trans ?_ (Below.mono hb1 ?_)) | (with_reducible refine Below.trans ?_ (Below.mono hbr ?_)) | (with_reducible refine Below.trans ?_ (Below.mono hb ?_)) | (simp; done) | (simp; omega) | omega)))).mono ?_
  rintro e w1 ⟨rfl, hs1⟩
  have hl1 := hs1.size
  simp at hl1
  have n0 : w1.heap[w.heap.size]? = some (.cells #[.int .i64 0, .int .i64 0, .int .i64 0, .string ⟨#[]⟩, .slice none 0 0, .slice none 0 0] 26 (0, 0)) := by
    rw [hs1.block _ (by simp; omega) (by omega), Below.heap_alloc _ _ _ (by simp)]; exact heap_new_at _ _ _ rfl
  have n1 : w1.heap[w.heap.size + 1]? = some (.cells #[.int .i64 0] 27 (0, 0)) := by
    rw [hs1.block _ (by simp) (by omega)]; exact heap_new_at _ _ _ (by simp)
  obtain ⟨x0, x1, x2, x3, x4, x5, xf⟩ := six_of n0
  have y0 : w1.cell? ⟨w.heap.size + 1, 0, none⟩ = some (.int .i64 0) := by simp [World.cell?, n1]
  have yf : w1.frozen? ⟨w.heap.size + 1, 0, none⟩ = false := by simp [World.frozen?, n1]
  have hbw : Bes r w w1 := (Bes.of_below (show Below w.heap.size w ((w.alloc _).alloc _) from (by repeat' (first | (with_reducible exact Below.refl _ _) | (with_reducible refine Below.drew ?_) | (with_reducible refine belowDrewN ?_ _) | (with_reducible refine belowIter ?_ ?_ _ _) | (with_reducible refine Below.setCell ?_ ?_ _) | (with_reducible refine Below.alloc ?_ ?_ _) | (with_reducible refine Below.trans ?_ (Below.mono hb4 ?_)) | (with_reducible refine Below.trans ?_ (Below.mono hb3 ?_)) | (with_reducible refine Below.trans ?_ (Below.mono hb2 ?_)) | (with_reducible refine Below.trans ?_ (Below.mono hb1 ?_)) | (with_reducible refine Below.trans ?_ (Below.mono hbr ?_)) | (with_reducible refine Below.trans ?_ (Below.mono hb ?_)) | (simp; done) | (simp; omega) | omega)))).trans hs1
  clear n0 n1
  go_wp2
  refine leaves_cons (f := 35) (args := #[.pointer (some ⟨w.heap.size + 1, 0, none⟩)]) (by simp) (by simp [go_sem]) ?_
  refine (pface_catch _ _ _ _ 0 y0 yf).mono ?_
  rintro e u' w'' ⟨rfl, rfl, rfl⟩
  simp [Leaves, settle, results, Tryz.results22, go_sem, x0, x1, x2, x3, x4, x5, xf, y0, yf]
  exact hbw.setCell_new (by simp) _
set_option maxRecDepth 100000 in
set_option maxHeartbeats 1000000 in
theorem rread_tok (r : Nat) (s : ByteArray) (a p q : Nat) (t : Tok) (ha : a ≤ s.size) (hs : s.size ≤ 140737488355327) (m : Int) (w : World) (hm : MaxW w m) (hr : RdAt w r s a) (h1 : (nextT (s.data.toList.drop a)).2 = .good t) (hk : t.kind ≠ 0) (hp : a + (nextT (s.data.toList.drop a)).1 = p)
    (hq' : p + t.len = q) (hq : q ≤ s.size) (h6 : t.kind ≤ 6) (h0 : 0 ≤ t.kind) :
    Calls Tryz.prog 22 #[.pointer (some ⟨r, 0, none⟩)] w (ReadPost r s w (objS 24 t (s.data.toList.drop q))) := by
  have HN := Lib.hid (fun W hm hr => rnext_good r s a p t ha hs m W hm hr h1 hk hp)
  unfold tkV at HN
  rw [hq'] at HN
  have HO := Lib.hid (fun W hm hr => obj_in s hs m 24 (by decide) r q p t W hq hm hr hq' hk h6 h0)
  have hlt := hr.lt
  have hne := hm.ne hr
  have e0 : (24 : Int) - ((24 : Nat) : Int) = 0 := by decide
  rw [e0] at HO
  clear h1 hp hq' hk h6 h0 e0
  go_enter_defers Tryz.func22, Tryz.ntmps22
  go_wp2_with fail
  refine (HN.out _ (hm.below (by repeat' (first | (with_reducible exact Below.refl _ _) | (with_reducible refine Below.drew ?_) | (with_reducible refine belowDrewN ?_ _) | (with_reducible refine belowIter ?_ ?_ _ _) | (with_reducible refine Below.setCell ?_ ?_ _) | (with_reducible refine Below.alloc ?_ ?_ _) | (with_reducible refine Below.trans ?_ (Below.mono hb4 ?_)) | (with_reducible refine Below.trans ?_ (Below.mono hb3 ?_)) | (with_reducible refine Below.trans ?_ (Below.mono hb2 ?_)) | (with_reducible refine Below.trans ?_ (Below.mono hb1 ?_)) | (with_reducible refine Below.trans ?_ (Below.mono hbr ?_)) | (with_reducible refine Below.trans ?_ (Below.mono hb ?_)) | (simp; done) | (simp; omega) | omega))) (hr.below (by repeat' (first | (with_reducible exact Below.refl _ _) | (with_reducible refine Below.drew ?_) | (with_reducible refine belowDrewN ?_ _) | (with_reducible refine belowIter ?_ ?_ _ _) | (with_reducible refine Below.setCell ?_ ?_ _) | (with_reducible refine Below.alloc ?_ ?_ _) | (with_reducible refine Below.trans ?_ (Below.mono hb4 ?_)) | (with_reducible refine Below.trans ?_ (Below.mono hb3 ?_)) | (with_reducible refine Below.trans ?_ (Below.mono hb2 ?_)) | (with_reducible refine Below.trans ?_ (Below.mono hb1 ?_)) | (with_reducible refine Below.trans ?_ (Below.mono hbr ?_)) | (with_reducible refine Below.trans ?_ (Below.mono hb ?_)) | (simp; done) | (simp; omega) | omega)))).mono ?_
  rintro e w1 ⟨rfl, hr1, hs1⟩
  have hm1 : MaxW w1 m := (hm.below (w' := (w.alloc (.cells #[.int .i64 0, .int .i64 0, .int .i64 0, .string ⟨#[]⟩, .slice none 0 0, .slice none 0 0] 26)).alloc (.cells #[.int .i64 0] 27)) (by repeat' (first | (with_reducible exact Below.refl _ _) | (with_reducible refine Below.drew ?_) | (with_reducible refine belowDrewN ?_ _) | (with_reducible refine belowIter ?_ ?_ _ _) | (with_reducible refine Below.setCell ?_ ?_ _) | (with_reducible refine Below.alloc ?_ ?_ _) | (with_reducible refine Below.trans ?_ (Below.mono hb4 ?_)) | (with_reducible refine Below.trans ?_ (Below.mono hb3 ?_)) | (with_reducible refine Below.trans ?_ (Below.mono hb2 ?_)) | (with_reducible refine Below.trans ?_ (Below.mono hb1 ?_)) | (with_reducible refine Below.trans ?_ (Below.mono hbr ?_)) | (with_reducible refine Below.trans ?_ (Below.mono hb ?_)) | (simp; done) | (simp; omega) | omega))).bes hs1 hne
  have hl1 := hs1.size
  simp at hl1
  have gn0 : w1.heap[w.heap.size]? = some (.cells #[.int .i64 0, .int .i64 0, .int .i64 0, .string ⟨#[]⟩, .slice none 0 0, .slice none 0 0] 26 (0, 0)) := by
    rw [hs1.block _ (by simp; omega) (by omega), Below.heap_alloc _ _ _ (by simp)]; exact heap_new_at _ _ _ rfl
  have gn1 : w1.heap[w.heap.size + 1]? = some (.cells #[.int .i64 0] 27 (0, 0)) := by
    rw [hs1.block _ (by simp) (by omega)]; exact heap_new_at _ _ _ (by simp)
  have hbw : Bes r w w1 := (Bes.of_below (show Below w.heap.size w ((w.alloc _).alloc _) from (by repeat' (first | (with_reducible exact Below.refl _ _) | (with_reducible refine Below.drew ?_) | (with_reducible refine belowDrewN ?_ _) | (with_reducible refine belowIter ?_ ?_ _ _) | (with_reducible refine Below.setCell ?_ ?_ _) | (with_reducible refine Below.alloc ?_ ?_ _) | (with_reducible refine Below.trans ?_ (Below.mono hb4 ?_)) | (with_reducible refine Below.trans ?_ (Below.mono hb3 ?_)) | (with_reducible refine Below.trans ?_ (Below.mono hb2 ?_)) | (with_reducible refine Below.trans ?_ (Below.mono hb1 ?_)) | (with_reducible refine Below.trans ?_ (Below.mono hbr ?_)) | (with_reducible refine Below.trans ?_ (Below.mono hb ?_)) | (simp; done) | (simp; omega) | omega)))).trans hs1
  go_wp2_with fail
  refine (HO.out _ hm1 hr1).mono ?_
  intro e w2 hpost
  cases hR : objS 24 t (s.data.toList.drop q) with
  | bad k =>
    rw [hR] at hpost
    obtain ⟨rfl, hs2⟩ := hpost
    have o0 := (hs2.block w.heap.size (by omega) (by omega)).trans gn0
    have o1 := (hs2.block (w.heap.size + 1) (by omega) (by omega)).trans gn1
    obtain ⟨x0, x1, x2, x3, x4, x5, xf⟩ := six_of o0
    have y0 : w2.cell? ⟨w.heap.size + 1, 0, none⟩ = some (.int .i64 0) := by simp [World.cell?, o1]
    have yf : w2.frozen? ⟨w.heap.size + 1, 0, none⟩ = false := by simp [World.frozen?, o1]
    have hl2 := hs2.size
    have hbw2 : Bes r w w2 := hbw.trans hs2
    clear gn0 gn1 o0 o1 hs2 hbw
    go_wp2
    refine leaves_cons (f := 35) (args := #[.pointer (some ⟨w.heap.size + 1, 0, none⟩)]) (by simp) (by simp [go_sem]) ?_
    refine (pface_catch _ _ _ _ 0 y0 yf).mono ?_
    rintro e u' w'' ⟨rfl, rfl, rfl⟩
    simp [Leaves, settle, results, Tryz.results22, go_sem, x0, x1, x2, x3, x4, x5, xf, y0, yf]
    exact ⟨rfl, hbw2.setCell_new (by simp) _⟩
  | good x =>
    obtain ⟨o, rest⟩ := x
    rw [hR] at hpost
    obtain ⟨cs, z, rfl, hz1, hz2, hO, hR2, hs2⟩ := hpost
    obtain ⟨p1, n1, c1, p2, n2, c2, rfl⟩ := hO.shape
    have o0 := (hs2.block w.heap.size (by omega) (by omega)).trans gn0
    have o1 := (hs2.block (w.heap.size + 1) (by omega) (by omega)).trans gn1
    obtain ⟨x0, x1, x2, x3, x4, x5, xf⟩ := six_of o0
    have y0 : w2.cell? ⟨w.heap.size + 1, 0, none⟩ = some (.int .i64 0) := by simp [World.cell?, o1]
    have yf : w2.frozen? ⟨w.heap.size + 1, 0, none⟩ = false := by simp [World.frozen?, o1]
    have hl2 := hs2.size
    have hbw2 : Bes r w w2 := hbw.trans hs2
    clear gn0 gn1 o0 o1 hs2 hbw
    have HO2 := Lib.hid (fun (W : World) (h : ∀ b, w1.heap.size ≤ b → W.heap[b]? = w2.heap[b]?) => objAt_out (B := w.heap.size) (w3 := W) hO (by omega) h)
    have HZ := Lib.hid hz2
    have hl3 : w.heap.size + 1 < w2.heap.size := by omega
    have hl4 : w.heap.size < w2.heap.size := by omega
    clear hO hz2
    unfold objCells
    go_wp2
    refine leaves_cons (f := 35) (args := #[.pointer (some ⟨w.heap.size + 1, 0, none⟩)]) (by simp) (by simp [go_sem]) ?_
    refine (pface_idle _ _).mono ?_
    rintro e u' w'' ⟨rfl, rfl, rfl⟩
    simp [Leaves, settle, results, Tryz.results22, go_sem, x0, x1, x2, x3, x4, x5, xf, y0, yf]
    rw [hR]
    refine ⟨p1, n1, c1, p2, n2, c2, z, rfl, hz1, HZ.out, HO2.out _ ?_, hR2.belowB (B := r + 1) (by repeat' (first | (with_reducible exact Below.refl _ _) | (with_reducible refine Below.setCell ?_ ?_ _) | (with_reducible refine Below.alloc ?_ ?_ _) | (show _ ≤ _; simp; done) | (show _ ≤ _; simp; omega) | omega)) (by omega), ?_⟩
    · intro b hb
      rw [Below.heap_setCell _ _ _ _ (by show b ≠ w.heap.size + 1; omega), Below.heap_setCell _ _ _ _ (by show b ≠ w.heap.size; omega), Below.heap_setCell _ _ _ _ (by show b ≠ w.heap.size; omega), Below.heap_setCell _ _ _ _ (by show b ≠ w.heap.size; omega), Below.heap_setCell _ _ _ _ (by show b ≠ w.heap.size; omega), Below.heap_setCell _ _ _ _ (by show b ≠ w.heap.size; omega), Below.heap_setCell _ _ _ _ (by show b ≠ w.heap.size; omega)]
    · (repeat' (first | (with_reducible exact hbw2) | (with_reducible refine Bes.setCell_new ?_ ?_ _) | (show _ ≤ _; simp; done) | (show _ ≤ _; simp; omega) | omega))
theorem rread_in (r : Nat) (s : ByteArray) (a : Nat) (ha : a ≤ s.size) (hs : s.size ≤ 140737488355327) (m : Int) (w : World) (hm : MaxW w m) (hr : RdAt w r s a) :
    Calls Tryz.prog 22 #[.pointer (some ⟨r, 0, none⟩)] w (ReadPost r s w (readS (s.data.toList.drop a))) := by
  cases hn : nextS (s.data.toList.drop a) with
  | bad k => rw [readS_bad hn]; exact rread_bad r s a k ha hs m w hm hr hn
  | good tr =>
    obtain ⟨t, rest⟩ := tr
    rw [readS_good hn]
    obtain ⟨h1, hk, hrest⟩ := nextS_good hn
    obtain ⟨g1, g2, g3, _⟩ := nextT_good h1
    simp only [List.length_drop, Array.length_toList, show s.data.size = s.size from rfl] at g1
    rw [List.drop_drop, ← Nat.add_assoc] at hrest
    subst hrest
    exact rread_tok r s a _ _ t ha hs m w hm hr h1 hk rfl rfl (by omega) g3 g2
/-- What parse.Object returns. -/
def ObjPost (s : ByteArray) (w : World) (R : Res (Ob × L)) (e : Ending) (w' : World) : Prop :=
  match R with
  | .good (o, rest) => ∃ (p1 : Option Addr) (n1 c1 : Nat) (p2 : Option Addr) (n2 c2 z : Nat), e = .returned (.tuple #[.agg #[.int .i64 o.kind, .int .i64 o.n, .int .i64 o.g, .string ⟨o.s.toArray⟩, .slice p1 n1 c1, .slice p2 n2 c2], .int .i64 z, .int .i64 0]) ∧ z ≤ s.size ∧ rest = s.data.toList.drop z ∧
      ObjAt (fun b => w.heap.size ≤ b) 25 w' (objCells o.kind o.n o.g o.s (.slice p1 n1 c1) (.slice p2 n2 c2)) o ∧ Below w.heap.size w w'
  | .bad k => e = .returned (.tuple #[.agg #[.int .i64 0, .int .i64 0, .int .i64 0, .string ⟨#[]⟩, .slice none 0 0, .slice none 0 0], .int .i64 0, .int .i64 k]) ∧ Below w.heap.size w w'
theorem below_bes {n r : Nat} {w w1 w2 : World} (h : Below n w w1) (hb : Bes r w1 w2) (hr : n ≤ r) (hn : n ≤ w1.heap.size) : Below n w w2 :=
  ⟨hb.os.trans h.os, hb.tape.trans h.tape, hb.output.trans h.output, Nat.le_trans h.size hb.size, fun k hk => (hb.block k (by omega) (by omega)).trans (h.block k hk)⟩
theorem nextS_codes {l : L} {k : Int} (h : nextS l = .bad k) : 2 ≤ k ∧ k ≤ 5 := by
  rcases nextS_bad h with h | ⟨h, _⟩
  · exact nextT_bad h
  · omega
theorem arrS_codes {f : Tok → L → Res (Ob × L)} (hf : ∀ t l k, f t l = .bad k → 2 ≤ k ∧ k ≤ 9) {d : Nat} : ∀ {m : Nat} {l : L} {acc : List Ob} {k : Int}, l.length < m → (∀ t l o r, f t l = .good (o, r) → r.length ≤ l.length) → arrS f d m l acc = .bad k → 2 ≤ k ∧ k ≤ 9
  | 0, _, _, _, h, _, _ => by omega
  | m + 1, l, acc, k, hm, hs, h => by
    rw [arrS] at h
    split at h
    · rename_i e he; cases h; have := nextS_codes he; omega
    · rename_i t r h1
      have h2 := (nextS_shorter h1).1
      split at h
      · cases h
      · split at h
        · cases h; omega
        · split at h
          · rename_i e he; cases h; exact hf _ _ _ he
          · rename_i o r2 h3
            have := hs _ _ _ _ h3
            exact arrS_codes hf (by omega) hs h
theorem dictS_codes {f : Tok → L → Res (Ob × L)} (hf : ∀ t l k, f t l = .bad k → 2 ≤ k ∧ k ≤ 9) : ∀ {m : Nat} {l : L} {acc : List (L × Ob)} {k : Int}, l.length < m → (∀ t l o r, f t l = .good (o, r) → r.length ≤ l.length) → dictS f m l acc = .bad k → 2 ≤ k ∧ k ≤ 9
  | 0, _, _, _, h, _, _ => by omega
  | m + 1, l, acc, k, hm, hs, h => by
    rw [dictS] at h
    split at h
    · rename_i e he; cases h; have := nextS_codes he; omega
    · rename_i t r h1
      have h2 := (nextS_shorter h1).1
      split at h
      · cases h
      · split at h
        · cases h; omega
        · split at h
          · cases h; omega
          · split at h
            · cases h; omega
            · split at h
              · rename_i e he; cases h; have := nextS_codes he; omega
              · rename_i t2 r2 h4
                have h5 := (nextS_shorter h4).1
                split at h
                · rename_i e he; cases h; exact hf _ _ _ he
                · rename_i o r3 h3
                  have := hs _ _ _ _ h3
                  exact dictS_codes hf (by omega) hs h
theorem objS_codes : ∀ (d : Nat) (t : Tok) (l : L) (k : Int), objS d t l = .bad k → 2 ≤ k ∧ k ≤ 9
  | 0, t, l, k, h => by rw [objS] at h; split at h <;> cases h <;> omega
  | d + 1, t, l, k, h => by
    rw [objS] at h
    split at h
    · split at h
      · split at h <;> cases h
      · split at h
        · cases h
        · split at h
          · cases h
          · split at h
            · cases h
            · split at h
              · cases h
              · split at h
                · split at h
                  · rename_i e he; cases h; exact arrS_codes (objS_codes d) (by omega) (objS_shorter d) he
                  · cases h
                · split at h
                  · rename_i e he; cases h; exact dictS_codes (objS_codes d) (by omega) (objS_shorter d) he
                  · cases h
    · cases h; omega
theorem readS_codes {l : L} {k : Int} (h : readS l = .bad k) : 2 ≤ k ∧ k ≤ 9 := by
  unfold readS at h
  split at h
  · rename_i e he; cases h; have := nextS_codes he; omega
  · exact objS_codes _ _ _ _ h
set_option maxRecDepth 100000 in
set_option maxHeartbeats 1000000 in
theorem Object_in (s : ByteArray) (a : Nat) (ha : a ≤ s.size) (hs : s.size ≤ 140737488355327) (m : Int) (w : World) (hm : MaxW w m) :
    Calls Tryz.prog 9 #[.string s, .int .i64 a] w (ObjPost s w (readS (s.data.toList.drop a))) := by
  obtain ⟨R, hR⟩ : ∃ R, readS (s.data.toList.drop a) = R := ⟨_, rfl⟩
  have HRD := Lib.hid (fun r W hm hr => hR ▸ rread_in r s a ha hs m W hm hr)
  have HCO := Lib.hid (fun k (h : R = .bad k) => readS_codes (hR.trans h))
  rw [hR]
  clear hR
  have hlt : decide ((s.size : Int) < a) = false := by simp; omega
  go_enter Tryz.func9, Tryz.ntmps9
  go_wp2_with fail
  refine (HRD.out _ _ (hm.below (by repeat' (first | (with_reducible exact Below.refl _ _) | (with_reducible refine Below.drew ?_) | (with_reducible refine belowDrewN ?_ _) | (with_reducible refine belowIter ?_ ?_ _ _) | (with_reducible refine Below.setCell ?_ ?_ _) | (with_reducible refine Below.alloc ?_ ?_ _) | (with_reducible refine Below.trans ?_ (Below.mono hb4 ?_)) | (with_reducible refine Below.trans ?_ (Below.mono hb3 ?_)) | (with_reducible refine Below.trans ?_ (Below.mono hb2 ?_)) | (with_reducible refine Below.trans ?_ (Below.mono hb1 ?_)) | (with_reducible refine Below.trans ?_ (Below.mono hbr ?_)) | (with_reducible refine Below.trans ?_ (Below.mono hb ?_)) | (simp; done) | (simp; omega) | omega))) (heap_new_at _ _ _ (by simp))).mono ?_
  intro e w1 hpost
  have bW : Below w.heap.size w ((w.alloc (.cells #[.int .i64 0, .int .i64 0, .int .i64 0, .string ⟨#[]⟩, .slice none 0 0, .slice none 0 0] 26)).alloc (.cells #[.string s, .int .i64 a] 48)) := (by repeat' (first | (with_reducible exact Below.refl _ _) | (with_reducible refine Below.drew ?_) | (with_reducible refine belowDrewN ?_ _) | (with_reducible refine belowIter ?_ ?_ _ _) | (with_reducible refine Below.setCell ?_ ?_ _) | (with_reducible refine Below.alloc ?_ ?_ _) | (with_reducible refine Below.trans ?_ (Below.mono hb4 ?_)) | (with_reducible refine Below.trans ?_ (Below.mono hb3 ?_)) | (with_reducible refine Below.trans ?_ (Below.mono hb2 ?_)) | (with_reducible refine Below.trans ?_ (Below.mono hb1 ?_)) | (with_reducible refine Below.trans ?_ (Below.mono hbr ?_)) | (with_reducible refine Below.trans ?_ (Below.mono hb ?_)) | (simp; done) | (simp; omega) | omega))
  have g0 : ((w.alloc (.cells #[.int .i64 0, .int .i64 0, .int .i64 0, .string ⟨#[]⟩, .slice none 0 0, .slice none 0 0] 26)).alloc (.cells #[.string s, .int .i64 a] 48)).heap[w.heap.size]? = some (.cells #[.int .i64 0, .int .i64 0, .int .i64 0, .string ⟨#[]⟩, .slice none 0 0, .slice none 0 0] 26 (0, 0)) := by
    rw [Below.heap_alloc _ _ _ (by simp)]; exact heap_new_at _ _ _ rfl
  cases R with
  | bad k =>
    obtain ⟨rfl, hs1⟩ := hpost
    have hb1 : Below w.heap.size w w1 := below_bes bW hs1 (by simp) (by simp; omega)
    have hl1 : w.heap.size + 2 ≤ w1.heap.size := by have := hs1.size; simp at this; omega
    have g1 := (hs1.block w.heap.size (by simp; omega) (by simp)).trans g0
    obtain ⟨x0, x1, x2, x3, x4, x5, xf⟩ := six_of g1
    have hk0 : (k != 0) = true := by have := HCO.out k rfl; simp; omega
    have hnw : w.heap.size < w1.heap.size := by omega
    clear hs1 bW g0 g1
    go_wp2
    refine bodyPost_ret (v := .tuple #[.agg #[.int .i64 0, .int .i64 0, .int .i64 0, .string ⟨#[]⟩, .slice none 0 0, .slice none 0 0], .int .i64 0, .int .i64 k]) (by simp [results, Tryz.results9, go_sem, x0, x1, x2, x3, x4, x5, xf, hnw]) rfl ⟨rfl, (by repeat' (first | (with_reducible exact Below.refl _ _) | (with_reducible refine Below.drew ?_) | (with_reducible refine belowDrewN ?_ _) | (with_reducible refine belowIter ?_ ?_ _ _) | (with_reducible refine Below.setCell ?_ ?_ _) | (with_reducible refine Below.alloc ?_ ?_ _) | (with_reducible refine Below.trans ?_ (Below.mono hb4 ?_)) | (with_reducible refine Below.trans ?_ (Below.mono hb3 ?_)) | (with_reducible refine Below.trans ?_ (Below.mono hb2 ?_)) | (with_reducible refine Below.trans ?_ (Below.mono hb1 ?_)) | (with_reducible refine Below.trans ?_ (Below.mono hbr ?_)) | (with_reducible refine Below.trans ?_ (Below.mono hb ?_)) | (simp; done) | (simp; omega) | omega))⟩
  | good x =>
    obtain ⟨o, rest⟩ := x
    obtain ⟨p1, n1, c1, p2, n2, c2, z, rfl, hz1, hz2, hO, hR1, hs1⟩ := hpost
    have hb1 : Below w.heap.size w w1 := below_bes bW hs1 (by simp) (by simp; omega)
    have hl1 : w.heap.size + 2 ≤ w1.heap.size := by have := hs1.size; simp at this; omega
    have g1 := (hs1.block w.heap.size (by simp; omega) (by simp)).trans g0
    obtain ⟨x0, x1, x2, x3, x4, x5, xf⟩ := six_of g1
    have hnw : w.heap.size < w1.heap.size := by omega
    have hnw1 : w.heap.size + 1 < w1.heap.size := by omega
    have hrc := hR1.cell1
    have HO2 := Lib.hid (fun (W : World) (h : ∀ b, w.heap.size + 2 ≤ b → b < w1.heap.size → W.heap[b]? = w1.heap[b]?) => ObjAt.grow (S' := fun b => w.heap.size ≤ b) (w' := W) hO (fun b hb1 hb2 => ⟨by simp at hb1; omega, h b (by simpa using hb1) hb2⟩))
    have HZ := Lib.hid hz2
    clear hs1 bW g0 g1 hO hR1 hz2
    go_wp2
    obtain ⟨w3, hw3⟩ : ∃ w3, w1.alloc (.cells #[.int .i64 o.kind, .int .i64 o.n, .int .i64 o.g, .string ⟨o.s.toArray⟩, .slice p1 n1 c1, .slice p2 n2 c2] 26) = w3 := ⟨_, rfl⟩
    have hb3 : Below w1.heap.size w1 w3 := hw3 ▸ (by repeat' (first | (with_reducible exact Below.refl _ _) | (with_reducible refine Below.drew ?_) | (with_reducible refine belowDrewN ?_ _) | (with_reducible refine belowIter ?_ ?_ _ _) | (with_reducible refine Below.setCell ?_ ?_ _) | (with_reducible refine Below.alloc ?_ ?_ _) | (with_reducible refine Below.trans ?_ (Below.mono hb4 ?_)) | (with_reducible refine Below.trans ?_ (Below.mono hb3 ?_)) | (with_reducible refine Below.trans ?_ (Below.mono hb2 ?_)) | (with_reducible refine Below.trans ?_ (Below.mono hb1 ?_)) | (with_reducible refine Below.trans ?_ (Below.mono hbr ?_)) | (with_reducible refine Below.trans ?_ (Below.mono hb ?_)) | (simp; done) | (simp; omega) | omega))
    have hg3 : w3.heap[w1.heap.size]? = some (.cells #[.int .i64 o.kind, .int .i64 o.n, .int .i64 o.g, .string ⟨o.s.toArray⟩, .slice p1 n1 c1, .slice p2 n2 c2] 26 (0, 0)) := hw3 ▸ heap_alloc_new w1 _
    rw [hw3]
    clear hw3
    obtain ⟨y0, y1, y2, y3, y4, y5, yf⟩ := six_of hg3
    have z0 := (hb3.cell (p := ⟨w.heap.size, 0, none⟩) hnw).trans x0
    have z1 := (hb3.cell (p := ⟨w.heap.size, 1, none⟩) hnw).trans x1
    have z2 := (hb3.cell (p := ⟨w.heap.size, 2, none⟩) hnw).trans x2
    have z3 := (hb3.cell (p := ⟨w.heap.size, 3, none⟩) hnw).trans x3
    have z4 := (hb3.cell (p := ⟨w.heap.size, 4, none⟩) hnw).trans x4
    have z5 := (hb3.cell (p := ⟨w.heap.size, 5, none⟩) hnw).trans x5
    have zf : ∀ o, w3.frozen? ⟨w.heap.size, o, none⟩ = false := fun o => (hb3.frozen (p := ⟨w.heap.size, o, none⟩) hnw).trans (xf o)
    have zr := (hb3.cell (p := ⟨w.heap.size + 1, 1, none⟩) hnw1).trans hrc
    have ne1 : ¬ w1.heap.size = w.heap.size := by omega
    have ne2 : ¬ w.heap.size = w1.heap.size := by omega
    have hb13 : Below w.heap.size w w3 := (by repeat' (first | (with_reducible exact Below.refl _ _) | (with_reducible refine Below.drew ?_) | (with_reducible refine belowDrewN ?_ _) | (with_reducible refine belowIter ?_ ?_ _ _) | (with_reducible refine Below.setCell ?_ ?_ _) | (with_reducible refine Below.alloc ?_ ?_ _) | (with_reducible refine Below.trans ?_ (Below.mono hb4 ?_)) | (with_reducible refine Below.trans ?_ (Below.mono hb3 ?_)) | (with_reducible refine Below.trans ?_ (Below.mono hb2 ?_)) | (with_reducible refine Below.trans ?_ (Below.mono hb1 ?_)) | (with_reducible refine Below.trans ?_ (Below.mono hbr ?_)) | (with_reducible refine Below.trans ?_ (Below.mono hb ?_)) | (simp; done) | (simp; omega) | omega))
    have HO3 := Lib.hid (fun (W : World) (h : ∀ b, w.heap.size + 2 ≤ b → b < w1.heap.size → W.heap[b]? = w3.heap[b]?) => HO2.out W (fun b h1 h2 => (h b h1 h2).trans (hb3.block b h2)))
    have hl3 := hb3.size
    clear x0 x1 x2 x3 x4 x5 xf hrc hg3
    go_region_held3 (fun w' => w'.cell? ⟨w1.heap.size, 0, none⟩ = some (.int .i64 o.kind) ∧ w'.cell? ⟨w1.heap.size, 1, none⟩ = some (.int .i64 o.n) ∧ w'.cell? ⟨w1.heap.size, 2, none⟩ = some (.int .i64 o.g) ∧ w'.cell? ⟨w1.heap.size, 3, none⟩ = some (.string ⟨o.s.toArray⟩) ∧ w'.cell? ⟨w1.heap.size, 4, none⟩ = some (.slice p1 n1 c1) ∧ w'.cell? ⟨w1.heap.size, 5, none⟩ = some (.slice p2 n2 c2) ∧ w'.cell? ⟨w.heap.size + 1, 1, none⟩ = some (.int .i64 z)) (go_keep) (fail)
    go_wp2
    refine bodyPost_ret (v := .tuple #[.agg #[.int .i64 o.kind, .int .i64 o.n, .int .i64 o.g, .string ⟨o.s.toArray⟩, .slice p1 n1 c1, .slice p2 n2 c2], .int .i64 z, .int .i64 0]) (by simp [results, Tryz.results9, go_sem, z0, z1, z2, z3, z4, z5, zf]) rfl ?_
    refine ⟨p1, n1, c1, p2, n2, c2, z, rfl, hz1, HZ.out, HO3.out _ ?_, ?_⟩
    · intro b hb _
      rw [heap_drew, Below.heap_setCell _ _ _ _ (by show b ≠ w.heap.size; omega), Below.heap_setCell _ _ _ _ (by show b ≠ w.heap.size; omega), Below.heap_setCell _ _ _ _ (by show b ≠ w.heap.size; omega), Below.heap_setCell _ _ _ _ (by show b ≠ w.heap.size; omega), Below.heap_setCell _ _ _ _ (by show b ≠ w.heap.size; omega), Below.heap_setCell _ _ _ _ (by show b ≠ w.heap.size; omega)]
    · have hb := hb13
      exact (by repeat' (first | (with_reducible exact Below.refl _ _) | (with_reducible refine Below.drew ?_) | (with_reducible refine belowDrewN ?_ _) | (with_reducible refine belowIter ?_ ?_ _ _) | (with_reducible refine Below.setCell ?_ ?_ _) | (with_reducible refine Below.alloc ?_ ?_ _) | (with_reducible refine Below.trans ?_ (Below.mono hb4 ?_)) | (with_reducible refine Below.trans ?_ (Below.mono hb3 ?_)) | (with_reducible refine Below.trans ?_ (Below.mono hb2 ?_)) | (with_reducible refine Below.trans ?_ (Below.mono hb1 ?_)) | (with_reducible refine Below.trans ?_ (Below.mono hbr ?_)) | (with_reducible refine Below.trans ?_ (Below.mono hb ?_)) | (simp; done) | (simp; omega) | omega))
set_option maxRecDepth 100000 in
set_option maxHeartbeats 1000000 in
theorem Object_arg (s : ByteArray) (a : Int) (ha : a < 0 ∨ (s.size : Int) < a) (w : World) :
    Calls Tryz.prog 9 #[.string s, .int .i64 a] w (ObjPost s w (.bad 1)) := by
  rcases ha with h | h
  · go_enter Tryz.func9, Tryz.ntmps9
    go_wp2
    refine bodyPost_ret (v := .tuple #[.agg #[.int .i64 0, .int .i64 0, .int .i64 0, .string ⟨#[]⟩, .slice none 0 0, .slice none 0 0], .int .i64 0, .int .i64 1]) (by simp [results, Tryz.results9, go_sem]) rfl ⟨rfl, (by repeat' (first | (with_reducible exact Below.refl _ _) | (with_reducible refine Below.drew ?_) | (with_reducible refine belowDrewN ?_ _) | (with_reducible refine belowIter ?_ ?_ _ _) | (with_reducible refine Below.setCell ?_ ?_ _) | (with_reducible refine Below.alloc ?_ ?_ _) | (with_reducible refine Below.trans ?_ (Below.mono hb4 ?_)) | (with_reducible refine Below.trans ?_ (Below.mono hb3 ?_)) | (with_reducible refine Below.trans ?_ (Below.mono hb2 ?_)) | (with_reducible refine Below.trans ?_ (Below.mono hb1 ?_)) | (with_reducible refine Below.trans ?_ (Below.mono hbr ?_)) | (with_reducible refine Below.trans ?_ (Below.mono hb ?_)) | (simp; done) | (simp; omega) | omega))⟩
  · have h2 : ¬ a < 0 := by omega
    go_enter Tryz.func9, Tryz.ntmps9
    go_wp2
    refine bodyPost_ret (v := .tuple #[.agg #[.int .i64 0, .int .i64 0, .int .i64 0, .string ⟨#[]⟩, .slice none 0 0, .slice none 0 0], .int .i64 0, .int .i64 1]) (by simp [results, Tryz.results9, go_sem]) rfl ⟨rfl, (by repeat' (first | (with_reducible exact Below.refl _ _) | (with_reducible refine Below.drew ?_) | (with_reducible refine belowDrewN ?_ _) | (with_reducible refine belowIter ?_ ?_ _ _) | (with_reducible refine Below.setCell ?_ ?_ _) | (with_reducible refine Below.alloc ?_ ?_ _) | (with_reducible refine Below.trans ?_ (Below.mono hb4 ?_)) | (with_reducible refine Below.trans ?_ (Below.mono hb3 ?_)) | (with_reducible refine Below.trans ?_ (Below.mono hb2 ?_)) | (with_reducible refine Below.trans ?_ (Below.mono hb1 ?_)) | (with_reducible refine Below.trans ?_ (Below.mono hbr ?_)) | (with_reducible refine Below.trans ?_ (Below.mono hb ?_)) | (simp; done) | (simp; omega) | omega))⟩
theorem Object_zero (s : ByteArray) (hs : s.size ≤ 140737488355327) (m : Int) (w : World) (hm : MaxW w m) :
    Calls Tryz.prog 9 #[.string s, .int .i64 0] w (ObjPost s w (readS s.data.toList)) := by
  have := Object_in s 0 (Nat.zero_le _) hs m w hm
  rw [List.drop_zero] at this
  exact this
/-- The only object of a text. -/
def wholeS (l : L) : Res Ob :=
  match readS l with
  | .bad k => .bad k
  | .good (o, r) =>
    match (nextT r).2 with
    | .bad k => .bad k
    | .good t => if t.kind = 0 then .good o else .bad 3
def WholePost (w : World) (R : Res Ob) (e : Ending) (w' : World) : Prop :=
  match R with
  | .good o => ∃ (p1 : Option Addr) (n1 c1 : Nat) (p2 : Option Addr) (n2 c2 : Nat), e = .returned (.tuple #[.agg #[.int .i64 o.kind, .int .i64 o.n, .int .i64 o.g, .string ⟨o.s.toArray⟩, .slice p1 n1 c1, .slice p2 n2 c2], .int .i64 0]) ∧
      ObjAt (fun b => w.heap.size ≤ b) 25 w' (objCells o.kind o.n o.g o.s (.slice p1 n1 c1) (.slice p2 n2 c2)) o ∧ Below w.heap.size w w'
  | .bad k => e = .returned (.tuple #[.agg #[.int .i64 0, .int .i64 0, .int .i64 0, .string ⟨#[]⟩, .slice none 0 0, .slice none 0 0], .int .i64 k]) ∧ Below w.heap.size w w'
set_option maxRecDepth 100000 in
set_option maxHeartbeats 1000000 in
theorem Whole_in (s : ByteArray) (hs : s.size ≤ 140737488355327) (m : Int) (w : World) (hm : MaxW w m) :
    Calls Tryz.prog 11 #[.string s] w (WholePost w (wholeS s.data.toList)) := by
  have HOB := Lib.hid (fun W hm => Object_zero s hs m W hm)
  unfold wholeS
  cases hR : readS s.data.toList with
  | bad k =>
    rw [hR] at HOB
    have hk0 : (k != 0) = true := by have := readS_codes hR; simp; omega
    clear hR
    go_enter Tryz.func11, Tryz.ntmps11
    go_wp2_with fail
    refine (HOB.out _ (hm.below (by repeat' (first | (with_reducible exact Below.refl _ _) | (with_reducible refine Below.drew ?_) | (with_reducible refine belowDrewN ?_ _) | (with_reducible refine belowIter ?_ ?_ _ _) | (with_reducible refine Below.setCell ?_ ?_ _) | (with_reducible refine Below.alloc ?_ ?_ _) | (with_reducible refine Below.trans ?_ (Below.mono hb4 ?_)) | (with_reducible refine Below.trans ?_ (Below.mono hb3 ?_)) | (with_reducible refine Below.trans ?_ (Below.mono hb2 ?_)) | (with_reducible refine Below.trans ?_ (Below.mono hb1 ?_)) | (with_reducible refine Below.trans ?_ (Below.mono hbr ?_)) | (with_reducible refine Below.trans ?_ (Below.mono hb ?_)) | (simp; done) | (simp; omega) | omega)))).mono ?_
    rintro e w1 ⟨rfl, hb1⟩
    obtain ⟨hc, hf⟩ := bcell hb1
    have hz := hb1.size
    simp at hz
    have hnz : w.heap.size < w1.heap.size := by omega
    have hbw1 : Below w.heap.size w w1 := (by repeat' (first | (with_reducible exact Below.refl _ _) | (with_reducible refine Below.drew ?_) | (with_reducible refine belowDrewN ?_ _) | (with_reducible refine belowIter ?_ ?_ _ _) | (with_reducible refine Below.setCell ?_ ?_ _) | (with_reducible refine Below.alloc ?_ ?_ _) | (with_reducible refine Below.trans ?_ (Below.mono hb4 ?_)) | (with_reducible refine Below.trans ?_ (Below.mono hb3 ?_)) | (with_reducible refine Below.trans ?_ (Below.mono hb2 ?_)) | (with_reducible refine Below.trans ?_ (Below.mono hb1 ?_)) | (with_reducible refine Below.trans ?_ (Below.mono hbr ?_)) | (with_reducible refine Below.trans ?_ (Below.mono hb ?_)) | (simp; done) | (simp; omega) | omega))
    have u0 : w1.cell? ⟨w.heap.size, 0, none⟩ = some (.int .i64 0) := by rw [hc _ _ (by simp)]; simp [go_sem]
    have u1 : w1.cell? ⟨w.heap.size, 1, none⟩ = some (.int .i64 0) := by rw [hc _ _ (by simp)]; simp [go_sem]
    have u2 : w1.cell? ⟨w.heap.size, 2, none⟩ = some (.int .i64 0) := by rw [hc _ _ (by simp)]; simp [go_sem]
    have u3 : w1.cell? ⟨w.heap.size, 3, none⟩ = some (.string ⟨#[]⟩) := by rw [hc _ _ (by simp)]; simp [go_sem]
    have u4 : w1.cell? ⟨w.heap.size, 4, none⟩ = some (.slice none 0 0) := by rw [hc _ _ (by simp)]; simp [go_sem]
    have u5 : w1.cell? ⟨w.heap.size, 5, none⟩ = some (.slice none 0 0) := by rw [hc _ _ (by simp)]; simp [go_sem]
    have uf : ∀ o, w1.frozen? ⟨w.heap.size, o, none⟩ = false := fun o => by rw [hf _ _ (by simp)]; simp [go_sem]
    clear hc hf
    go_wp2
    refine bodyPost_ret (v := .tuple #[.agg #[.int .i64 0, .int .i64 0, .int .i64 0, .string ⟨#[]⟩, .slice none 0 0, .slice none 0 0], .int .i64 k]) (by simp [results, Tryz.results11, go_sem, u0, u1, u2, u3, u4, u5, uf, hnz]) rfl ⟨rfl, (by repeat' (first | (with_reducible exact Below.refl _ _) | (with_reducible refine Below.drew ?_) | (with_reducible refine belowDrewN ?_ _) | (with_reducible refine belowIter ?_ ?_ _ _) | (with_reducible refine Below.setCell ?_ ?_ _) | (with_reducible refine Below.alloc ?_ ?_ _) | (with_reducible refine Below.trans ?_ (Below.mono hb4 ?_)) | (with_reducible refine Below.trans ?_ (Below.mono hb3 ?_)) | (with_reducible refine Below.trans ?_ (Below.mono hb2 ?_)) | (with_reducible refine Below.trans ?_ (Below.mono hb1 ?_)) | (with_reducible refine Below.trans ?_ (Below.mono hbr ?_)) | (with_reducible refine Below.trans ?_ (Below.mono hb ?_)) | (simp; done) | (simp; omega) | omega))⟩
  | good x =>
    obtain ⟨o, rest⟩ := x
    rw [hR] at HOB
    dsimp only
    clear hR
    cases hn : (nextT rest).2 with
    | bad k =>
      have hk00 := nextT_bad hn
      have HRN := Lib.hid hn
      clear hn
      go_enter Tryz.func11, Tryz.ntmps11
      go_wp2_with fail
      refine (HOB.out _ (hm.below (by repeat' (first | (with_reducible exact Below.refl _ _) | (with_reducible refine Below.drew ?_) | (with_reducible refine belowDrewN ?_ _) | (with_reducible refine belowIter ?_ ?_ _ _) | (with_reducible refine Below.setCell ?_ ?_ _) | (with_reducible refine Below.alloc ?_ ?_ _) | (with_reducible refine Below.trans ?_ (Below.mono hb4 ?_)) | (with_reducible refine Below.trans ?_ (Below.mono hb3 ?_)) | (with_reducible refine Below.trans ?_ (Below.mono hb2 ?_)) | (with_reducible refine Below.trans ?_ (Below.mono hb1 ?_)) | (with_reducible refine Below.trans ?_ (Below.mono hbr ?_)) | (with_reducible refine Below.trans ?_ (Below.mono hb ?_)) | (simp; done) | (simp; omega) | omega)))).mono ?_
      rintro e w1 ⟨p1, n1, c1, p2, n2, c2, z, rfl, hz1, rfl, hO, hb1⟩
      obtain ⟨hc, hf⟩ := bcell hb1
      have hz := hb1.size
      simp at hz
      have hm1 : MaxW w1 m := (hm.below (w' := w.alloc (.cells #[.int .i64 0, .int .i64 0, .int .i64 0, .string ⟨#[]⟩, .slice none 0 0, .slice none 0 0] 26)) (by repeat' (first | (with_reducible exact Below.refl _ _) | (with_reducible refine Below.drew ?_) | (with_reducible refine belowDrewN ?_ _) | (with_reducible refine belowIter ?_ ?_ _ _) | (with_reducible refine Below.setCell ?_ ?_ _) | (with_reducible refine Below.alloc ?_ ?_ _) | (with_reducible refine Below.trans ?_ (Below.mono hb4 ?_)) | (with_reducible refine Below.trans ?_ (Below.mono hb3 ?_)) | (with_reducible refine Below.trans ?_ (Below.mono hb2 ?_)) | (with_reducible refine Below.trans ?_ (Below.mono hb1 ?_)) | (with_reducible refine Below.trans ?_ (Below.mono hbr ?_)) | (with_reducible refine Below.trans ?_ (Below.mono hb ?_)) | (simp; done) | (simp; omega) | omega))).below hb1
      have HO2 := Lib.hid (fun (W : World) (h : ∀ b, w.heap.size + 1 ≤ b → b < w1.heap.size → W.heap[b]? = w1.heap[b]?) => ObjAt.grow (S' := fun b => w.heap.size ≤ b) (w' := W) hO (fun b hb1 hb2 => ⟨by simp at hb1; omega, h b (by simpa using hb1) hb2⟩))
      have hnz : w.heap.size < w1.heap.size := by omega
      have hbw1 : Below w.heap.size w w1 := (by repeat' (first | (with_reducible exact Below.refl _ _) | (with_reducible refine Below.drew ?_) | (with_reducible refine belowDrewN ?_ _) | (with_reducible refine belowIter ?_ ?_ _ _) | (with_reducible refine Below.setCell ?_ ?_ _) | (with_reducible refine Below.alloc ?_ ?_ _) | (with_reducible refine Below.trans ?_ (Below.mono hb4 ?_)) | (with_reducible refine Below.trans ?_ (Below.mono hb3 ?_)) | (with_reducible refine Below.trans ?_ (Below.mono hb2 ?_)) | (with_reducible refine Below.trans ?_ (Below.mono hb1 ?_)) | (with_reducible refine Below.trans ?_ (Below.mono hbr ?_)) | (with_reducible refine Below.trans ?_ (Below.mono hb ?_)) | (simp; done) | (simp; omega) | omega))
      have u0 : w1.cell? ⟨w.heap.size, 0, none⟩ = some (.int .i64 0) := by rw [hc _ _ (by simp)]; simp [go_sem]
      have u1 : w1.cell? ⟨w.heap.size, 1, none⟩ = some (.int .i64 0) := by rw [hc _ _ (by simp)]; simp [go_sem]
      have u2 : w1.cell? ⟨w.heap.size, 2, none⟩ = some (.int .i64 0) := by rw [hc _ _ (by simp)]; simp [go_sem]
      have u3 : w1.cell? ⟨w.heap.size, 3, none⟩ = some (.string ⟨#[]⟩) := by rw [hc _ _ (by simp)]; simp [go_sem]
      have u4 : w1.cell? ⟨w.heap.size, 4, none⟩ = some (.slice none 0 0) := by rw [hc _ _ (by simp)]; simp [go_sem]
      have u5 : w1.cell? ⟨w.heap.size, 5, none⟩ = some (.slice none 0 0) := by rw [hc _ _ (by simp)]; simp [go_sem]
      have uf : ∀ o, w1.frozen? ⟨w.heap.size, o, none⟩ = false := fun o => by rw [hf _ _ (by simp)]; simp [go_sem]
      clear hc hf hO
      have HN := Lib.hid (fun W hm => lexnext_bad s z k HRN.out hz1 hs m W hm)
      have hk0 : (k != 0) = true := by simp; omega
      go_wp2_with fail
      refine (HN.out _ (hm1.below (by repeat' (first | (with_reducible exact Below.refl _ _) | (with_reducible refine Below.drew ?_) | (with_reducible refine belowDrewN ?_ _) | (with_reducible refine belowIter ?_ ?_ _ _) | (with_reducible refine Below.setCell ?_ ?_ _) | (with_reducible refine Below.alloc ?_ ?_ _) | (with_reducible refine Below.trans ?_ (Below.mono hb4 ?_)) | (with_reducible refine Below.trans ?_ (Below.mono hb3 ?_)) | (with_reducible refine Below.trans ?_ (Below.mono hb2 ?_)) | (with_reducible refine Below.trans ?_ (Below.mono hb1 ?_)) | (with_reducible refine Below.trans ?_ (Below.mono hbr ?_)) | (with_reducible refine Below.trans ?_ (Below.mono hb ?_)) | (simp; done) | (simp; omega) | omega)))).mono ?_
      rintro e w2 ⟨rfl, hb2⟩
      obtain ⟨hc2, hf2⟩ := bcell hb2
      have hz2 := hb2.size
      simp at hz2
      have hnz2 : w.heap.size < w2.heap.size := by omega
      have hnzn : ¬ w.heap.size = w1.heap.size := by omega
      have hnz3 : w1.heap.size < w2.heap.size := by omega
      have hb12 : Below w1.heap.size w1 w2 := (by repeat' (first | (with_reducible exact Below.refl _ _) | (with_reducible refine Below.drew ?_) | (with_reducible refine belowDrewN ?_ _) | (with_reducible refine belowIter ?_ ?_ _ _) | (with_reducible refine Below.setCell ?_ ?_ _) | (with_reducible refine Below.alloc ?_ ?_ _) | (with_reducible refine Below.trans ?_ (Below.mono hb4 ?_)) | (with_reducible refine Below.trans ?_ (Below.mono hb3 ?_)) | (with_reducible refine Below.trans ?_ (Below.mono hb2 ?_)) | (with_reducible refine Below.trans ?_ (Below.mono hb1 ?_)) | (with_reducible refine Below.trans ?_ (Below.mono hbr ?_)) | (with_reducible refine Below.trans ?_ (Below.mono hb ?_)) | (simp; done) | (simp; omega) | omega))
      have v0 := (hb12.cell (p := ⟨w.heap.size, 0, none⟩) hnz).trans u0
      have v1 := (hb12.cell (p := ⟨w.heap.size, 1, none⟩) hnz).trans u1
      have v2 := (hb12.cell (p := ⟨w.heap.size, 2, none⟩) hnz).trans u2
      have v3 := (hb12.cell (p := ⟨w.heap.size, 3, none⟩) hnz).trans u3
      have v4 := (hb12.cell (p := ⟨w.heap.size, 4, none⟩) hnz).trans u4
      have v5 := (hb12.cell (p := ⟨w.heap.size, 5, none⟩) hnz).trans u5
      have vf : ∀ o, w2.frozen? ⟨w.heap.size, o, none⟩ = false := fun o => (hb12.frozen (p := ⟨w.heap.size, o, none⟩) hnz).trans (uf o)
      have tg := (hb2.block w1.heap.size (by simp)).trans (heap_new_at w1 _ _ rfl)
      obtain ⟨t0, t1, t2, t3, t4, t5, tf⟩ := six_of tg
      clear u0 u1 u2 u3 u4 u5 uf hc2 hf2 tg hb2
      go_wp2
      refine bodyPost_ret (v := .tuple #[.agg #[.int .i64 0, .int .i64 0, .int .i64 0, .string ⟨#[]⟩, .slice none 0 0, .slice none 0 0], .int .i64 k]) (by simp [results, Tryz.results11, go_sem, v0, v1, v2, v3, v4, v5, vf, t0, t1, t2, t3, t4, t5, hnz, hnz2, hnz3]) rfl ⟨rfl, by (have hb := hbw1; have hb2 := hb12; exact (by repeat' (first | (with_reducible exact Below.refl _ _) | (with_reducible refine Below.drew ?_) | (with_reducible refine belowDrewN ?_ _) | (with_reducible refine belowIter ?_ ?_ _ _) | (with_reducible refine Below.setCell ?_ ?_ _) | (with_reducible refine Below.alloc ?_ ?_ _) | (with_reducible refine Below.trans ?_ (Below.mono hb4 ?_)) | (with_reducible refine Below.trans ?_ (Below.mono hb3 ?_)) | (with_reducible refine Below.trans ?_ (Below.mono hb2 ?_)) | (with_reducible refine Below.trans ?_ (Below.mono hb1 ?_)) | (with_reducible refine Below.trans ?_ (Below.mono hbr ?_)) | (with_reducible refine Below.trans ?_ (Below.mono hb ?_)) | (simp; done) | (simp; omega) | omega)))⟩
    | good t =>
      cases hk : (t.kind != 0) with
      | true =>
        have hk2 : t.kind ≠ 0 := by simpa using hk
        dsimp only
        rw [if_neg hk2]
        have HRN := Lib.hid hn
        clear hn hk2
        go_enter Tryz.func11, Tryz.ntmps11
        go_wp2_with fail
        refine (HOB.out _ (hm.below (by repeat' (first | (with_reducible exact Below.refl _ _) | (with_reducible refine Below.drew ?_) | (with_reducible refine belowDrewN ?_ _) | (with_reducible refine belowIter ?_ ?_ _ _) | (with_reducible refine Below.setCell ?_ ?_ _) | (with_reducible refine Below.alloc ?_ ?_ _) | (with_reducible refine Below.trans ?_ (Below.mono hb4 ?_)) | (with_reducible refine Below.trans ?_ (Below.mono hb3 ?_)) | (with_reducible refine Below.trans ?_ (Below.mono hb2 ?_)) | (with_reducible refine Below.trans ?_ (Below.mono hb1 ?_)) | (with_reducible refine Below.trans ?_ (Below.mono hbr ?_)) | (with_reducible refine Below.trans ?_ (Below.mono hb ?_)) | (simp; done) | (simp; omega) | omega)))).mono ?_
        rintro e w1 ⟨p1, n1, c1, p2, n2, c2, z, rfl, hz1, rfl, hO, hb1⟩
        obtain ⟨hc, hf⟩ := bcell hb1
        have hz := hb1.size
        simp at hz
        have hm1 : MaxW w1 m := (hm.below (w' := w.alloc (.cells #[.int .i64 0, .int .i64 0, .int .i64 0, .string ⟨#[]⟩, .slice none 0 0, .slice none 0 0] 26)) (by repeat' (first | (with_reducible exact Below.refl _ _) | (with_reducible refine Below.drew ?_) | (with_reducible refine belowDrewN ?_ _) | (with_reducible refine belowIter ?_ ?_ _ _) | (with_reducible refine Below.setCell ?_ ?_ _) | (with_reducible refine Below.alloc ?_ ?_ _) | (with_reducible refine Below.trans ?_ (Below.mono hb4 ?_)) | (with_reducible refine Below.trans ?_ (Below.mono hb3 ?_)) | (with_reducible refine Below.trans ?_ (Below.mono hb2 ?_)) | (with_reducible refine Below.trans ?_ (Below.mono hb1 ?_)) | (with_reducible refine Below.trans ?_ (Below.mono hbr ?_)) | (with_reducible refine Below.trans ?_ (Below.mono hb ?_)) | (simp; done) | (simp; omega) | omega))).below hb1
        have HO2 := Lib.hid (fun (W : World) (h : ∀ b, w.heap.size + 1 ≤ b → b < w1.heap.size → W.heap[b]? = w1.heap[b]?) => ObjAt.grow (S' := fun b => w.heap.size ≤ b) (w' := W) hO (fun b hb1 hb2 => ⟨by simp at hb1; omega, h b (by simpa using hb1) hb2⟩))
        have hnz : w.heap.size < w1.heap.size := by omega
        have hbw1 : Below w.heap.size w w1 := (by repeat' (first | (with_reducible exact Below.refl _ _) | (with_reducible refine Below.drew ?_) | (with_reducible refine belowDrewN ?_ _) | (with_reducible refine belowIter ?_ ?_ _ _) | (with_reducible refine Below.setCell ?_ ?_ _) | (with_reducible refine Below.alloc ?_ ?_ _) | (with_reducible refine Below.trans ?_ (Below.mono hb4 ?_)) | (with_reducible refine Below.trans ?_ (Below.mono hb3 ?_)) | (with_reducible refine Below.trans ?_ (Below.mono hb2 ?_)) | (with_reducible refine Below.trans ?_ (Below.mono hb1 ?_)) | (with_reducible refine Below.trans ?_ (Below.mono hbr ?_)) | (with_reducible refine Below.trans ?_ (Below.mono hb ?_)) | (simp; done) | (simp; omega) | omega))
        have u0 : w1.cell? ⟨w.heap.size, 0, none⟩ = some (.int .i64 0) := by rw [hc _ _ (by simp)]; simp [go_sem]
        have u1 : w1.cell? ⟨w.heap.size, 1, none⟩ = some (.int .i64 0) := by rw [hc _ _ (by simp)]; simp [go_sem]
        have u2 : w1.cell? ⟨w.heap.size, 2, none⟩ = some (.int .i64 0) := by rw [hc _ _ (by simp)]; simp [go_sem]
        have u3 : w1.cell? ⟨w.heap.size, 3, none⟩ = some (.string ⟨#[]⟩) := by rw [hc _ _ (by simp)]; simp [go_sem]
        have u4 : w1.cell? ⟨w.heap.size, 4, none⟩ = some (.slice none 0 0) := by rw [hc _ _ (by simp)]; simp [go_sem]
        have u5 : w1.cell? ⟨w.heap.size, 5, none⟩ = some (.slice none 0 0) := by rw [hc _ _ (by simp)]; simp [go_sem]
        have uf : ∀ o, w1.frozen? ⟨w.heap.size, o, none⟩ = false := fun o => by rw [hf _ _ (by simp)]; simp [go_sem]
        clear hc hf hO
        have HN := Lib.hid (fun W hm => lexnext_good s z _ t HRN.out rfl hz1 hs m W hm)
        go_wp2_with fail
        refine (HN.out _ (hm1.below (by repeat' (first | (with_reducible exact Below.refl _ _) | (with_reducible refine Below.drew ?_) | (with_reducible refine belowDrewN ?_ _) | (with_reducible refine belowIter ?_ ?_ _ _) | (with_reducible refine Below.setCell ?_ ?_ _) | (with_reducible refine Below.alloc ?_ ?_ _) | (with_reducible refine Below.trans ?_ (Below.mono hb4 ?_)) | (with_reducible refine Below.trans ?_ (Below.mono hb3 ?_)) | (with_reducible refine Below.trans ?_ (Below.mono hb2 ?_)) | (with_reducible refine Below.trans ?_ (Below.mono hb1 ?_)) | (with_reducible refine Below.trans ?_ (Below.mono hbr ?_)) | (with_reducible refine Below.trans ?_ (Below.mono hb ?_)) | (simp; done) | (simp; omega) | omega)))).mono ?_
        rintro e w2 ⟨rfl, hb2⟩
        obtain ⟨hc2, hf2⟩ := bcell hb2
        have hz2 := hb2.size
        simp at hz2
        have hnz2 : w.heap.size < w2.heap.size := by omega
        have hnzn : ¬ w.heap.size = w1.heap.size := by omega
        have hnz3 : w1.heap.size < w2.heap.size := by omega
        have hb12 : Below w1.heap.size w1 w2 := (by repeat' (first | (with_reducible exact Below.refl _ _) | (with_reducible refine Below.drew ?_) | (with_reducible refine belowDrewN ?_ _) | (with_reducible refine belowIter ?_ ?_ _ _) | (with_reducible refine Below.setCell ?_ ?_ _) | (with_reducible refine Below.alloc ?_ ?_ _) | (with_reducible refine Below.trans ?_ (Below.mono hb4 ?_)) | (with_reducible refine Below.trans ?_ (Below.mono hb3 ?_)) | (with_reducible refine Below.trans ?_ (Below.mono hb2 ?_)) | (with_reducible refine Below.trans ?_ (Below.mono hb1 ?_)) | (with_reducible refine Below.trans ?_ (Below.mono hbr ?_)) | (with_reducible refine Below.trans ?_ (Below.mono hb ?_)) | (simp; done) | (simp; omega) | omega))
        have v0 := (hb12.cell (p := ⟨w.heap.size, 0, none⟩) hnz).trans u0
        have v1 := (hb12.cell (p := ⟨w.heap.size, 1, none⟩) hnz).trans u1
        have v2 := (hb12.cell (p := ⟨w.heap.size, 2, none⟩) hnz).trans u2
        have v3 := (hb12.cell (p := ⟨w.heap.size, 3, none⟩) hnz).trans u3
        have v4 := (hb12.cell (p := ⟨w.heap.size, 4, none⟩) hnz).trans u4
        have v5 := (hb12.cell (p := ⟨w.heap.size, 5, none⟩) hnz).trans u5
        have vf : ∀ o, w2.frozen? ⟨w.heap.size, o, none⟩ = false := fun o => (hb12.frozen (p := ⟨w.heap.size, o, none⟩) hnz).trans (uf o)
        have tg := (hb2.block w1.heap.size (by simp)).trans (heap_new_at w1 _ _ rfl)
        obtain ⟨t0, t1, t2, t3, t4, t5, tf⟩ := six_of tg
        clear u0 u1 u2 u3 u4 u5 uf hc2 hf2 tg hb2
        go_wp2
        refine bodyPost_ret (v := .tuple #[.agg #[.int .i64 0, .int .i64 0, .int .i64 0, .string ⟨#[]⟩, .slice none 0 0, .slice none 0 0], .int .i64 3]) (by simp [results, Tryz.results11, go_sem, v0, v1, v2, v3, v4, v5, vf, t0, t1, t2, t3, t4, t5, hnz, hnz2, hnz3]) rfl ⟨rfl, by (have hb := hbw1; have hb2 := hb12; exact (by repeat' (first | (with_reducible exact Below.refl _ _) | (with_reducible refine Below.drew ?_) | (with_reducible refine belowDrewN ?_ _) | (with_reducible refine belowIter ?_ ?_ _ _) | (with_reducible refine Below.setCell ?_ ?_ _) | (with_reducible refine Below.alloc ?_ ?_ _) | (with_reducible refine Below.trans ?_ (Below.mono hb4 ?_)) | (with_reducible refine Below.trans ?_ (Below.mono hb3 ?_)) | (with_reducible refine Below.trans ?_ (Below.mono hb2 ?_)) | (with_reducible refine Below.trans ?_ (Below.mono hb1 ?_)) | (with_reducible refine Below.trans ?_ (Below.mono hbr ?_)) | (with_reducible refine Below.trans ?_ (Below.mono hb ?_)) | (simp; done) | (simp; omega) | omega)))⟩
      | false =>
        have hk2 : t.kind = 0 := by simpa using hk
        dsimp only
        rw [if_pos hk2]
        have HRN := Lib.hid hn
        clear hn hk2
        go_enter Tryz.func11, Tryz.ntmps11
        go_wp2_with fail
        refine (HOB.out _ (hm.below (by repeat' (first | (with_reducible exact Below.refl _ _) | (with_reducible refine Below.drew ?_) | (with_reducible refine belowDrewN ?_ _) | (with_reducible refine belowIter ?_ ?_ _ _) | (with_reducible refine Below.setCell ?_ ?_ _) | (with_reducible refine Below.alloc ?_ ?_ _) | (with_reducible refine Below.trans ?_ (Below.mono hb4 ?_)) | (with_reducible refine Below.trans ?_ (Below.mono hb3 ?_)) | (with_reducible refine Below.trans ?_ (Below.mono hb2 ?_)) | (with_reducible refine Below.trans ?_ (Below.mono hb1 ?_)) | (with_reducible refine Below.trans ?_ (Below.mono hbr ?_)) | (with_reducible refine Below.trans ?_ (Below.mono hb ?_)) | (simp; done) | (simp; omega) | omega)))).mono ?_
        rintro e w1 ⟨p1, n1, c1, p2, n2, c2, z, rfl, hz1, rfl, hO, hb1⟩
        obtain ⟨hc, hf⟩ := bcell hb1
        have hz := hb1.size
        simp at hz
        have hm1 : MaxW w1 m := (hm.below (w' := w.alloc (.cells #[.int .i64 0, .int .i64 0, .int .i64 0, .string ⟨#[]⟩, .slice none 0 0, .slice none 0 0] 26)) (by repeat' (first | (with_reducible exact Below.refl _ _) | (with_reducible refine Below.drew ?_) | (with_reducible refine belowDrewN ?_ _) | (with_reducible refine belowIter ?_ ?_ _ _) | (with_reducible refine Below.setCell ?_ ?_ _) | (with_reducible refine Below.alloc ?_ ?_ _) | (with_reducible refine Below.trans ?_ (Below.mono hb4 ?_)) | (with_reducible refine Below.trans ?_ (Below.mono hb3 ?_)) | (with_reducible refine Below.trans ?_ (Below.mono hb2 ?_)) | (with_reducible refine Below.trans ?_ (Below.mono hb1 ?_)) | (with_reducible refine Below.trans ?_ (Below.mono hbr ?_)) | (with_reducible refine Below.trans ?_ (Below.mono hb ?_)) | (simp; done) | (simp; omega) | omega))).below hb1
        have HO2 := Lib.hid (fun (W : World) (h : ∀ b, w.heap.size + 1 ≤ b → b < w1.heap.size → W.heap[b]? = w1.heap[b]?) => ObjAt.grow (S' := fun b => w.heap.size ≤ b) (w' := W) hO (fun b hb1 hb2 => ⟨by simp at hb1; omega, h b (by simpa using hb1) hb2⟩))
        have hnz : w.heap.size < w1.heap.size := by omega
        have hbw1 : Below w.heap.size w w1 := (by repeat' (first | (with_reducible exact Below.refl _ _) | (with_reducible refine Below.drew ?_) | (with_reducible refine belowDrewN ?_ _) | (with_reducible refine belowIter ?_ ?_ _ _) | (with_reducible refine Below.setCell ?_ ?_ _) | (with_reducible refine Below.alloc ?_ ?_ _) | (with_reducible refine Below.trans ?_ (Below.mono hb4 ?_)) | (with_reducible refine Below.trans ?_ (Below.mono hb3 ?_)) | (with_reducible refine Below.trans ?_ (Below.mono hb2 ?_)) | (with_reducible refine Below.trans ?_ (Below.mono hb1 ?_)) | (with_reducible refine Below.trans ?_ (Below.mono hbr ?_)) | (with_reducible refine Below.trans ?_ (Below.mono hb ?_)) | (simp; done) | (simp; omega) | omega))
        have u0 : w1.cell? ⟨w.heap.size, 0, none⟩ = some (.int .i64 0) := by rw [hc _ _ (by simp)]; simp [go_sem]
        have u1 : w1.cell? ⟨w.heap.size, 1, none⟩ = some (.int .i64 0) := by rw [hc _ _ (by simp)]; simp [go_sem]
        have u2 : w1.cell? ⟨w.heap.size, 2, none⟩ = some (.int .i64 0) := by rw [hc _ _ (by simp)]; simp [go_sem]
        have u3 : w1.cell? ⟨w.heap.size, 3, none⟩ = some (.string ⟨#[]⟩) := by rw [hc _ _ (by simp)]; simp [go_sem]
        have u4 : w1.cell? ⟨w.heap.size, 4, none⟩ = some (.slice none 0 0) := by rw [hc _ _ (by simp)]; simp [go_sem]
        have u5 : w1.cell? ⟨w.heap.size, 5, none⟩ = some (.slice none 0 0) := by rw [hc _ _ (by simp)]; simp [go_sem]
        have uf : ∀ o, w1.frozen? ⟨w.heap.size, o, none⟩ = false := fun o => by rw [hf _ _ (by simp)]; simp [go_sem]
        clear hc hf hO
        have HN := Lib.hid (fun W hm => lexnext_good s z _ t HRN.out rfl hz1 hs m W hm)
        go_wp2_with fail
        refine (HN.out _ (hm1.below (by repeat' (first | (with_reducible exact Below.refl _ _) | (with_reducible refine Below.drew ?_) | (with_reducible refine belowDrewN ?_ _) | (with_reducible refine belowIter ?_ ?_ _ _) | (with_reducible refine Below.setCell ?_ ?_ _) | (with_reducible refine Below.alloc ?_ ?_ _) | (with_reducible refine Below.trans ?_ (Below.mono hb4 ?_)) | (with_reducible refine Below.trans ?_ (Below.mono hb3 ?_)) | (with_reducible refine Below.trans ?_ (Below.mono hb2 ?_)) | (with_reducible refine Below.trans ?_ (Below.mono hb1 ?_)) | (with_reducible refine Below.trans ?_ (Below.mono hbr ?_)) | (with_reducible refine Below.trans ?_ (Below.mono hb ?_)) | (simp; done) | (simp; omega) | omega)))).mono ?_
        rintro e w2 ⟨rfl, hb2⟩
        obtain ⟨hc2, hf2⟩ := bcell hb2
        have hz2 := hb2.size
        simp at hz2
        have hnz2 : w.heap.size < w2.heap.size := by omega
        have hnzn : ¬ w.heap.size = w1.heap.size := by omega
        have hnz3 : w1.heap.size < w2.heap.size := by omega
        have hb12 : Below w1.heap.size w1 w2 := (by repeat' (first | (with_reducible exact Below.refl _ _) | (with_reducible refine Below.drew ?_) | (with_reducible refine belowDrewN ?_ _) | (with_reducible refine belowIter ?_ ?_ _ _) | (with_reducible refine Below.setCell ?_ ?_ _) | (with_reducible refine Below.alloc ?_ ?_ _) | (with_reducible refine Below.trans ?_ (Below.mono hb4 ?_)) | (with_reducible refine Below.trans ?_ (Below.mono hb3 ?_)) | (with_reducible refine Below.trans ?_ (Below.mono hb2 ?_)) | (with_reducible refine Below.trans ?_ (Below.mono hb1 ?_)) | (with_reducible refine Below.trans ?_ (Below.mono hbr ?_)) | (with_reducible refine Below.trans ?_ (Below.mono hb ?_)) | (simp; done) | (simp; omega) | omega))
        have v0 := (hb12.cell (p := ⟨w.heap.size, 0, none⟩) hnz).trans u0
        have v1 := (hb12.cell (p := ⟨w.heap.size, 1, none⟩) hnz).trans u1
        have v2 := (hb12.cell (p := ⟨w.heap.size, 2, none⟩) hnz).trans u2
        have v3 := (hb12.cell (p := ⟨w.heap.size, 3, none⟩) hnz).trans u3
        have v4 := (hb12.cell (p := ⟨w.heap.size, 4, none⟩) hnz).trans u4
        have v5 := (hb12.cell (p := ⟨w.heap.size, 5, none⟩) hnz).trans u5
        have vf : ∀ o, w2.frozen? ⟨w.heap.size, o, none⟩ = false := fun o => (hb12.frozen (p := ⟨w.heap.size, o, none⟩) hnz).trans (uf o)
        have tg := (hb2.block w1.heap.size (by simp)).trans (heap_new_at w1 _ _ rfl)
        obtain ⟨t0, t1, t2, t3, t4, t5, tf⟩ := six_of tg
        clear u0 u1 u2 u3 u4 u5 uf hc2 hf2 tg hb2
        go_wp2
        refine bodyPost_ret (v := .tuple #[.agg #[.int .i64 o.kind, .int .i64 o.n, .int .i64 o.g, .string ⟨o.s.toArray⟩, .slice p1 n1 c1, .slice p2 n2 c2], .int .i64 0]) (by simp [results, Tryz.results11, go_sem, v0, v1, v2, v3, v4, v5, vf, t0, t1, t2, t3, t4, t5, hnz, hnz2, hnz3]) rfl ?_
        refine ⟨p1, n1, c1, p2, n2, c2, rfl, HO2.out _ ?_, ?_⟩
        · intro b hb1' hb2'
          rw [Below.heap_alloc _ _ _ (by simp; omega), Below.heap_setCell _ _ _ _ (by show b ≠ w.heap.size; omega), Below.heap_setCell _ _ _ _ (by show b ≠ w.heap.size; omega), Below.heap_setCell _ _ _ _ (by show b ≠ w.heap.size; omega), Below.heap_setCell _ _ _ _ (by show b ≠ w.heap.size; omega), Below.heap_setCell _ _ _ _ (by show b ≠ w.heap.size; omega), Below.heap_setCell _ _ _ _ (by show b ≠ w.heap.size; omega)]
          exact hb12.block b hb2'
        · have hb := hbw1
          have hb2 := hb12
          exact (by repeat' (first | (with_reducible exact Below.refl _ _) | (with_reducible refine Below.drew ?_) | (with_reducible refine belowDrewN ?_ _) | (with_reducible refine belowIter ?_ ?_ _ _) | (with_reducible refine Below.setCell ?_ ?_ _) | (with_reducible refine Below.alloc ?_ ?_ _) | (with_reducible refine Below.trans ?_ (Below.mono hb4 ?_)) | (with_reducible refine Below.trans ?_ (Below.mono hb3 ?_)) | (with_reducible refine Below.trans ?_ (Below.mono hb2 ?_)) | (with_reducible refine Below.trans ?_ (Below.mono hb1 ?_)) | (with_reducible refine Below.trans ?_ (Below.mono hbr ?_)) | (with_reducible refine Below.trans ?_ (Below.mono hb ?_)) | (simp; done) | (simp; omega) | omega))
end Go.Proofs.YtpadlepdgnlgnaaGreatDoor
