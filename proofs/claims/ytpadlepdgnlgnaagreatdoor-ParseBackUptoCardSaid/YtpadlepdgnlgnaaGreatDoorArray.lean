/- The walk of parse's array reader, given the object reader a level further down. -/
import Derived.Test.YtpadlepdgnlgnaaGreatDoorKids
import Derived.Test.YtpadlepdgnlgnaaGreatDoorParLaws
set_option linter.all false
namespace Go.Proofs.YtpadlepdgnlgnaaGreatDoor
open Go.RowKit Fo

theorem heap_new_at (w : World) (o : Go.Obj) (b : Nat) (h : b = w.heap.size) : (w.alloc o).heap[b]? = some o := by subst h; exact heap_alloc_new w o
theorem six_of {w : World} {b : Nat} {t : TypeId} {v0 v1 v2 v3 v4 v5 : Value} (h : w.heap[b]? = some (.cells #[v0, v1, v2, v3, v4, v5] t (0, 0))) :
    w.cell? ⟨b, 0, none⟩ = some v0 ∧ w.cell? ⟨b, 1, none⟩ = some v1 ∧ w.cell? ⟨b, 2, none⟩ = some v2 ∧ w.cell? ⟨b, 3, none⟩ = some v3 ∧ w.cell? ⟨b, 4, none⟩ = some v4 ∧ w.cell? ⟨b, 5, none⟩ = some v5 ∧ ∀ o, w.frozen? ⟨b, o, none⟩ = false := by
  simp [World.cell?, World.frozen?, h]
theorem own_slice {w : World} {B sz n : Nat} {e : TypeId} {v : Value} {xs : List Value} (h : w.ownsRow B e sz v n xs) : ∃ p c, v = .slice p n c := by
  rcases h.2 with ⟨h1, h2⟩ | ⟨g, cap, cur, h1, _⟩
  · exact ⟨none, 0, by rw [h1, h2]⟩
  · exact ⟨_, _, h1⟩
theorem five_of {w : World} {b : Nat} {t : TypeId} {v0 v1 v2 v3 v4 : Value} (h : w.heap[b]? = some (.cells #[v0, v1, v2, v3, v4] t (0, 0))) :
    w.cell? ⟨b, 0, none⟩ = some v0 ∧ w.cell? ⟨b, 1, none⟩ = some v1 ∧ w.cell? ⟨b, 2, none⟩ = some v2 ∧ w.cell? ⟨b, 3, none⟩ = some v3 ∧ w.cell? ⟨b, 4, none⟩ = some v4 ∧ ∀ o, w.frozen? ⟨b, o, none⟩ = false := by
  simp [World.cell?, World.frozen?, h]
theorem MaxW.ne {w : World} {m : Int} {r : Nat} {s : ByteArray} {a : Nat} (h : MaxW w m) (hr : RdAt w r s a) : r ≠ 0 := by
  rintro rfl
  unfold MaxW at h; rw [hr.cell0] at h; cases h
theorem MaxW.bes {w w' : World} {m : Int} {r : Nat} (h : MaxW w m) (hb : Bes r w w') (hr : r ≠ 0) : MaxW w' m := by
  unfold MaxW at *; rw [World.cell?_of_block (hb.block 0 (MaxW.lt h) (by omega))]; exact h
/-- Where a reader stands. -/
def rdPos (w : World) (r : Nat) : Nat := match w.cell? ⟨r, 1, none⟩ with | some (.int _ n) => n.toNat | _ => 0
theorem RdAt.pos {w : World} {r : Nat} {s : ByteArray} {a : Nat} (h : RdAt w r s a) : rdPos w r = a := by
  unfold rdPos; rw [h.cell1]; simp

/-- The step of the array's loop, in the plain. -/
theorem arrS_bad {f : Tok → L → Res (Ob × L)} {d n : Nat} {l : L} {acc : List Ob} {k : Int} (h : nextS l = .bad k) : arrS f d (n + 1) l acc = .bad k := by rw [arrS, h]
theorem arrS_end {f : Tok → L → Res (Ob × L)} {d n : Nat} {l r : L} {acc : List Ob} {t : Tok} (h : nextS l = .good (t, r)) (hw : (t.kind == 6 && t.s == [93]) = true) : arrS f d (n + 1) l acc = .good (acc, r) := by
  rw [arrS, h]; simp only [Bool.and_eq_true, beq_iff_eq] at hw; simp [hw]
theorem arrS_many {f : Tok → L → Res (Ob × L)} {d n : Nat} {l r : L} {acc : List Ob} {t : Tok} (h : nextS l = .good (t, r)) (hw : (t.kind == 6 && t.s == [93]) = false) (hb : beginsS t = true) (hd : 0 < d) (hn : 8191 ≤ acc.length) : arrS f d (n + 1) l acc = .bad 6 := by
  rw [arrS, h]
  have : ¬ (t.kind = 6 ∧ t.s = [93]) := by rintro ⟨h1, h2⟩; simp [h1, h2] at hw
  dsimp only
  rw [if_neg this, if_pos ⟨hb, hd, hn⟩]
theorem arrS_fbad {f : Tok → L → Res (Ob × L)} {d n : Nat} {l r : L} {acc : List Ob} {t : Tok} {k : Int} (h : nextS l = .good (t, r)) (hw : (t.kind == 6 && t.s == [93]) = false) (hb : ¬ (beginsS t = true ∧ 0 < d ∧ 8191 ≤ acc.length)) (hf : f t r = .bad k) : arrS f d (n + 1) l acc = .bad k := by
  rw [arrS, h]
  have : ¬ (t.kind = 6 ∧ t.s = [93]) := by rintro ⟨h1, h2⟩; simp [h1, h2] at hw
  dsimp only
  rw [if_neg this, if_neg hb, hf]
theorem arrS_more {f : Tok → L → Res (Ob × L)} {d n : Nat} {l r r2 : L} {acc : List Ob} {t : Tok} {o : Ob} (h : nextS l = .good (t, r)) (hw : (t.kind == 6 && t.s == [93]) = false) (hb : ¬ (beginsS t = true ∧ 0 < d ∧ 8191 ≤ acc.length)) (hf : f t r = .good (o, r2)) : arrS f d (n + 1) l acc = arrS f d n r2 (acc ++ [o]) := by
  rw [arrS, h]
  have : ¬ (t.kind = 6 ∧ t.s = [93]) := by rintro ⟨h1, h2⟩; simp [h1, h2] at hw
  dsimp only
  rw [if_neg this, if_neg hb, hf]
theorem objS_good {d : Nat} {t : Tok} {l : L} {o : Ob} {r : L} (h : objS d t l = .good (o, r)) : beginsS t = true ∧ 0 < d := by
  cases d with
  | zero => rw [objS] at h; split at h <;> cases h
  | succ d => rw [objS] at h; split at h
              · exact ⟨by assumption, by omega⟩
              · cases h

theorem ownRow_bes {w w' : World} {B sz n r : Nat} {e : TypeId} {v : Value} {xs : List Value} (h : w.ownsRow B e sz v n xs) (hs : Bes r w w') (hr : r < B) : w'.ownsRow B e sz v n xs :=
  World.ownsRow.kept h (row := some r) ⟨hs.os, hs.tape, hs.output, hs.size, fun k h1 h2 => hs.block k h1 (by intro h; exact h2 (by rw [h]))⟩ (.inr (by intro h'; have := own_base h _ h'; omega))
/-- What the reading of one more element comes to. -/
def ElemPost (s : ByteArray) (d fuel r q : Nat) (acc : List Ob) (T : Res (List Ob × L)) (w : World) (e : Ending) (w' : World) : Prop :=
  (∃ k, e = .panicked [{ v := .iface 84 (.int .i64 k), recovered := false }] ∧ Hid (T = .bad k) ∧ Bes r w w') ∨
  (∃ (o : Ob) (p1 : Option Addr) (n1 c1 : Nat) (p2 : Option Addr) (n2 c2 z : Nat), e = .returned (.agg #[.int .i64 o.kind, .int .i64 o.n, .int .i64 o.g, .string ⟨o.s.toArray⟩, .slice p1 n1 c1, .slice p2 n2 c2]) ∧ z ≤ s.size ∧ q ≤ z ∧ acc.length < 8191 ∧
    Hid (arrS (objS d) d fuel (s.data.toList.drop z) (acc ++ [o]) = T) ∧ ObjAt (fun b => w.heap.size ≤ b) (d + 1) w' (objCells o.kind o.n o.g o.s (.slice p1 n1 c1) (.slice p2 n2 c2)) o ∧ RdAt w' r s z ∧ Bes r w w')
theorem arr_elem (s : ByteArray) (m : Int) (d fuel r a p q : Nat) (acc : List Ob) (T : Res (List Ob × L)) (HC : ObjC s m d) (t : Tok) (hn : nextS (s.data.toList.drop a) = .good (t, s.data.toList.drop q)) (hw : (t.kind == 6 && t.s == [93]) = false)
    (hb : ¬ (beginsS t = true ∧ 0 < d ∧ 8191 ≤ acc.length)) (hT : Hid (arrS (objS d) d (fuel + 1) (s.data.toList.drop a) acc = T)) (hq : q ≤ s.size) (hpq : p + t.len = q) (hk : t.kind ≠ 0) (h6 : t.kind ≤ 6) (h0 : 0 ≤ t.kind)
    (w : World) (hm : MaxW w m) (hr : RdAt w r s q) :
    Calls Tryz.prog 36 #[.pointer (some ⟨r, 0, none⟩), .agg #[.int .i64 t.kind, .int .i64 p, .int .i64 q, .int .i64 t.n, .string ⟨t.s.toArray⟩], .int .i64 (24 - (d : Int))] w (ElemPost s d fuel r q acc T w) := by
  refine (HC r q p t w hq hm hr hpq hk h6 h0).mono ?_
  intro e w' h
  unfold RdPost at h
  cases hf : objS d t (s.data.toList.drop q) with
  | bad k =>
    rw [hf] at h
    exact .inl ⟨k, h.1, Lib.hid (hT.out.symm.trans (arrS_fbad hn hw hb hf)), h.2⟩
  | good R =>
    obtain ⟨o, rest⟩ := R
    rw [hf] at h
    obtain ⟨cs, z, rfl, hz1, rfl, hO, hR, hB⟩ := h
    obtain ⟨p1, n1, c1, p2, n2, c2, rfl⟩ := hO.shape
    have hg := objS_good hf
    have hsh := objS_shorter _ _ _ _ _ hf
    simp only [List.length_drop, Array.length_toList, show s.data.size = s.size from rfl] at hsh
    refine .inr ⟨o, p1, n1, c1, p2, n2, c2, z, rfl, hz1, by omega, ?_, Lib.hid ((arrS_more hn hw hb hf).symm.trans hT.out), hO, hR, hB⟩
    apply Classical.byContradiction
    intro h9; exact hb ⟨hg.1, hg.2, by omega⟩
theorem set_fifth {w : World} {b : Nat} {t : TypeId} {v0 v1 v2 v3 v4 v5 v : Value} (h : w.heap[b]? = some (.cells #[v0, v1, v2, v3, v4, v5] t (0, 0))) :
    (w.setCell ⟨b, 5, none⟩ v).heap[b]? = some (.cells #[v0, v1, v2, v3, v4, v] t (0, 0)) := by
  have hlt := lt_of_block h
  have h' : w.heap[b] = .cells #[v0, v1, v2, v3, v4, v5] t (0, 0) := by simpa [Array.getElem?_eq_getElem hlt] using h
  simp only [World.setCell, Array.getElem?_modify]
  simp [h]
/-- The reader stands where the element has ended. -/
theorem arr_rd {s : ByteArray} {B n r z : Nat} {w3 w4 w5 : World} {v u : Value} {xs : List Value} {sz : Nat} {e : TypeId} {o : Go.Obj} {x : Nat} (hr : r < B) (hlt : r < w3.heap.size) (hown3 : w3.ownsRow B e sz v n xs) (hs4 : Bes r w3 w4)
    (hgrow : (w4.alloc o).grownBy w5 v.ownBlock) (hR4 : RdAt w4 r s z) (hx : x ≠ r) : RdAt (w5.setCell ⟨x, 5, none⟩ u) r s z := by
  have h4 := hs4.size
  have hlo := own_base hown3
  show (w5.setCell _ _).heap[r]? = _
  rw [Below.heap_setCell _ _ _ _ (by show r ≠ x; omega), hgrow.block r (by simp; omega) (by intro h; have := hlo r h.symm; omega), Below.heap_alloc _ _ _ (by omega)]; exact hR4
/-- What one more element leaves of the loop's invariant. -/
theorem arr_round (s : ByteArray) (m : Int) (d fuel r z : Nat) (w w3 w4 w5 : World) (gg cap : Nat) (vp : Option Addr) (vc : Nat) (acc : List Ob) (css : List (List Value)) (o : Ob) (p1 : Option Addr) (n1 c1 : Nat) (p2 : Option Addr) (n2 c2 : Nat) (T : Res (List Ob × L))
    (hlt : r < w.heap.size) (B0 : w3.heap[w.heap.size]? = some (.cells #[.int .i64 0, .int .i64 0, .int .i64 0, .string ⟨#[]⟩, .slice none 0 0, .slice none 0 0] 26 (0, 0)))
    (B1 : w3.heap[w.heap.size + 1]? = some (.cells #[.int .i64 6, .int .i64 0, .int .i64 0, .string ⟨#[]⟩, .slice none 0 0, .slice vp acc.length vc] 26 (0, 0)))
    (hown3 : w3.ownsRow (w.heap.size + 2) 26 6 (.slice vp acc.length vc) acc.length css.flatten)
    (hkids : KidsAt (fun b => w.heap.size + 2 ≤ b ∧ (Value.slice vp acc.length vc).ownBlock ≠ some b) (d + 1) w3 css acc)
    (hO : ObjAt (fun b => w3.heap.size ≤ b) (d + 1) w4 (objCells o.kind o.n o.g o.s (.slice p1 n1 c1) (.slice p2 n2 c2)) o)
    (hs4 : Bes r w3 w4) (hbd : Bes r w w3) (hR4 : RdAt w4 r s z) (hm3 : MaxW w3 m) {q : Nat} (hr3 : RdAt w3 r s q)
    (hown5 : w5.ownsRow (w.heap.size + 2) 26 6 (.slice (some ⟨gg, 0, none⟩) (acc.length + 1) cap) (acc.length + 1) (css.flatten ++ objCells o.kind o.n o.g o.s (.slice p1 n1 c1) (.slice p2 n2 c2)))
    (hgrow : (w4.alloc (.cells #[.int .i64 o.kind, .int .i64 o.n, .int .i64 o.g, .string ⟨o.s.toArray⟩, .slice p1 n1 c1, .slice p2 n2 c2] 26)).grownBy w5 (Value.slice vp acc.length vc).ownBlock)
    (hat : (Value.slice vp acc.length vc).ownBlock = some gg ∨ gg = w4.heap.size + 1) (hz1 : z ≤ s.size)
    (HX : Hid (arrS (objS d) d fuel (s.data.toList.drop z) (acc ++ [o]) = T)) (hfu : s.size - z < fuel) :
    (fun wr => ∃ (a fuel : Nat) (acc : List Ob) (css : List (List Value)) (v : Value), a ≤ s.size ∧ RdAt wr r s a ∧ wr.heap[w.heap.size]? = some (.cells #[.int .i64 0, .int .i64 0, .int .i64 0, .string ⟨#[]⟩, .slice none 0 0, .slice none 0 0] 26 (0, 0)) ∧ wr.heap[w.heap.size + 1]? = some (.cells #[.int .i64 6, .int .i64 0, .int .i64 0, .string ⟨#[]⟩, .slice none 0 0, v] 26 (0, 0)) ∧ wr.ownsRow (w.heap.size + 2) 26 6 v acc.length css.flatten ∧ KidsAt (fun b => w.heap.size + 2 ≤ b ∧ v.ownBlock ≠ some b) (d + 1) wr css acc ∧ Bes r w wr ∧ MaxW wr m ∧ s.size - a < fuel ∧ Hid (arrS (objS d) d fuel (s.data.toList.drop a) acc = T)) (w5.setCell ⟨w.heap.size + 1, 5, none⟩ (.slice (some ⟨gg, 0, none⟩) (acc.length + 1) cap)) := by
  obtain ⟨wf, hwf⟩ : ∃ wf, w5.setCell ⟨w.heap.size + 1, 5, none⟩ (.slice (some ⟨gg, 0, none⟩) (acc.length + 1) cap) = wf := ⟨_, rfl⟩
  have hlt3 : w.heap.size + 1 < w3.heap.size := lt_of_block B1
  have hlt4 := hs4.size
  have hlo := own_base hown3
  have hup : ∀ k, (Value.slice vp acc.length vc).ownBlock = some k → k < w3.heap.size := fun k h => (World.ownsRow.lt hown3 k h).2
  have hg2 : w.heap.size + 2 ≤ gg := own_base hown5 gg rfl
  have hk : ∀ k, k < w4.heap.size → k ≠ w.heap.size + 1 → (Value.slice vp acc.length vc).ownBlock ≠ some k → wf.heap[k]? = w4.heap[k]? := fun k h1 h2 h3 => by
    rw [← hwf]
    exact (Below.heap_setCell _ _ _ _ h2).trans ((hgrow.block k (by simp; omega) (Ne.symm h3)).trans (Below.heap_alloc _ _ _ h1))
  have nown : ∀ k, k < w.heap.size + 2 → (Value.slice vp acc.length vc).ownBlock ≠ some k := fun k h h' => by have := hlo k h'; omega
  have hgb : w5.grownBy wf (some (w.heap.size + 1)) := by
    rw [← hwf]
    exact ⟨rfl, rfl, rfl, by simp [World.setCell], fun k h1 h2 => Below.heap_setCell _ _ _ _ (by intro h; exact h2 (by rw [h]))⟩
  have hsz : w4.heap.size + 1 ≤ wf.heap.size := by
    have := hgrow.size; simp at this
    exact Nat.le_trans this hgb.size
  have hggn : ∀ b, b < w4.heap.size → (Value.slice vp acc.length vc).ownBlock ≠ some b → some gg ≠ some b := by
    intro b h1 h2 h3
    simp only [Option.some.injEq] at h3; subst h3
    rcases hat with h | h
    · exact h2 h
    · omega
  rw [hwf]
  refine ⟨z, fuel, acc ++ [o], css ++ [objCells o.kind o.n o.g o.s (.slice p1 n1 c1) (.slice p2 n2 c2)], .slice (some ⟨gg, 0, none⟩) (acc.length + 1) cap, hz1, ?_, ?_, ?_, ?_, ?_, ?_, ?_, hfu, HX⟩
  · show wf.heap[r]? = _
    rw [hk r (by omega) (by omega) (nown r (by omega))]; exact hR4
  · rw [hk _ (by omega) (by omega) (nown _ (by omega)), hs4.block _ (by omega) (by omega)]; exact B0
  · rw [← hwf]
    refine set_fifth (v5 := .slice vp acc.length vc) ?_
    rw [hgrow.block _ (by simp; omega) (Ne.symm (nown _ (by omega))), Below.heap_alloc _ _ _ (by omega), hs4.block _ (by omega) (by omega)]; exact B1
  · have := World.ownsRow.kept hown5 hgb (.inr (by simp [Value.ownBlock]; omega))
    simpa using this
  · refine KidsAt.push ?_ rfl ?_
    · exact hkids.grow (fun b h1 h2 => ⟨⟨h1.1, hggn b (by omega) h1.2⟩, (hk b (by omega) (by have := h1.1; omega) h1.2).trans (hs4.block b h2 (by have := h1.1; omega))⟩)
    · refine hO.grow (fun b h1 h2 => ?_)
      have nb : (Value.slice vp acc.length vc).ownBlock ≠ some b := fun h => by have := hup b h; omega
      exact ⟨⟨by omega, hggn b h2 nb⟩, hk b h2 (by omega) nb⟩
  · have h4 := hbd.trans hs4
    refine ⟨?_, ?_, ?_, by have := h4.size; omega, fun k h1 h2 => (hk k (by omega) (by omega) (nown k (by omega))).trans (h4.block k h1 h2)⟩
    · exact hgb.os.trans (hgrow.os.trans h4.os)
    · exact hgb.tape.trans (hgrow.tape.trans h4.tape)
    · exact hgb.output.trans (hgrow.output.trans h4.output)
  · have h4 := hm3.bes hs4 (hm3.ne hr3)
    have := MaxW.lt hm3
    unfold MaxW at *
    rw [World.cell?_of_block (hk 0 (by omega) (by omega) (nown 0 (by omega)))]; exact h4
set_option maxRecDepth 100000 in
set_option maxHeartbeats 2000000 in
theorem array_in (s : ByteArray) (m : Int) (d : Nat) (hs : s.size ≤ 140737488355327) (hd : d ≤ 24) (HO : ObjC s m d) : ArrC s m d := by
  intro r a0 w ha0 hm0 hr0
  have hlt := hr0.lt
  obtain ⟨T, hT⟩ : ∃ T, arrS (objS d) d ((s.data.toList.drop a0).length + 1) (s.data.toList.drop a0) [] = T := ⟨_, rfl⟩
  rw [hT]
  have HT := Lib.hid hT; clear hT
  have HC := Lib.hid HO; clear HO
  go_enter Tryz.func74, Tryz.ntmps74
  go_wp2_with fail
  go_loopw [6] (fun _ wr => ∃ (a fuel : Nat) (acc : List Ob) (css : List (List Value)) (v : Value), a ≤ s.size ∧ RdAt wr r s a ∧ wr.heap[w.heap.size]? = some (.cells #[.int .i64 0, .int .i64 0, .int .i64 0, .string ⟨#[]⟩, .slice none 0 0, .slice none 0 0] 26 (0, 0)) ∧ wr.heap[w.heap.size + 1]? = some (.cells #[.int .i64 6, .int .i64 0, .int .i64 0, .string ⟨#[]⟩, .slice none 0 0, v] 26 (0, 0)) ∧ wr.ownsRow (w.heap.size + 2) 26 6 v acc.length css.flatten ∧ KidsAt (fun b => w.heap.size + 2 ≤ b ∧ v.ownBlock ≠ some b) (d + 1) wr css acc ∧ Bes r w wr ∧ MaxW wr m ∧ s.size - a < fuel ∧ Hid (arrS (objS d) d fuel (s.data.toList.drop a) acc = T)) (fun _ wr => s.size - rdPos wr r)
  case atStart =>
    refine ⟨a0, _, [], [], .slice none 0 0, ha0, hr0.below (by repeat' (first | (with_reducible exact Below.refl _ _) | (with_reducible refine Below.drew ?_) | (with_reducible refine belowDrewN ?_ _) | (with_reducible refine belowIter ?_ ?_ _ _) | (with_reducible refine Below.setCell ?_ ?_ _) | (with_reducible refine Below.alloc ?_ ?_ _) | (with_reducible refine Below.trans ?_ (Below.mono hb4 ?_)) | (with_reducible refine Below.trans ?_ (Below.mono hb3 ?_)) | (with_reducible refine Below.trans ?_ (Below.mono hb2 ?_)) | (with_reducible refine Below.trans ?_ (Below.mono hb1 ?_)) | (with_reducible refine Below.trans ?_ (Below.mono hbr ?_)) | (with_reducible refine Below.trans ?_ (Below.mono hb ?_)) | (simp; done) | (simp; omega) | omega)), (Below.heap_alloc _ _ _ (by simp)).trans (heap_new_at _ _ _ rfl), heap_new_at _ _ _ (by simp), ⟨by simp, .inl ⟨rfl, rfl⟩⟩, KidsAt.nil, (by repeat' (first | (with_reducible exact Bes.refl _ _) | (with_reducible refine Bes.drew ?_) | (with_reducible refine Bes.drewN ?_ _) | (with_reducible refine Bes.alloc ?_ _) | (with_reducible refine Bes.setCell ?_ _ _) | (with_reducible refine Bes.setCell_new ?_ ?_ _) | (with_reducible refine Bes.belowB ?_ hb5 ?_) | (with_reducible refine Bes.belowB ?_ hb4 ?_) | (with_reducible refine Bes.belowB ?_ hb3 ?_) | (with_reducible refine Bes.belowB ?_ hb2 ?_) | (with_reducible refine Bes.belowB ?_ hb1 ?_) | (with_reducible refine Bes.belowB ?_ hbr ?_) | (with_reducible refine Bes.belowB ?_ hb ?_) | (with_reducible refine Bes.trans ?_ hs5) | (with_reducible refine Bes.trans ?_ hs4) | (with_reducible refine Bes.trans ?_ hs3) | (with_reducible refine Bes.trans ?_ hs2) | (with_reducible refine Bes.trans ?_ hs1) | (show _ ≤ _; simp; done) | (show _ ≤ _; simp; omega) | omega)), hm0.below (by repeat' (first | (with_reducible exact Below.refl _ _) | (with_reducible refine Below.drew ?_) | (with_reducible refine belowDrewN ?_ _) | (with_reducible refine belowIter ?_ ?_ _ _) | (with_reducible refine Below.setCell ?_ ?_ _) | (with_reducible refine Below.alloc ?_ ?_ _) | (with_reducible refine Below.trans ?_ (Below.mono hb4 ?_)) | (with_reducible refine Below.trans ?_ (Below.mono hb3 ?_)) | (with_reducible refine Below.trans ?_ (Below.mono hb2 ?_)) | (with_reducible refine Below.trans ?_ (Below.mono hb1 ?_)) | (with_reducible refine Below.trans ?_ (Below.mono hbr ?_)) | (with_reducible refine Below.trans ?_ (Below.mono hb ?_)) | (simp; done) | (simp; omega) | omega)), ?_, HT⟩
    simp
  case round =>
    obtain ⟨a, fuel, acc, css, v, ha, hr, hB0, hB1, hown, hkids, hbes, hm, hfu, H⟩ := hrel
    clear HT
    obtain ⟨vp, vc, rfl⟩ := own_slice hown
    obtain ⟨fuel, rfl⟩ : ∃ f, fuel = f + 1 := ⟨fuel - 1, by omega⟩
    cases hn : nextS (s.data.toList.drop a) with
    | bad k =>
      have HX := Lib.hid (H.out.symm.trans (arrS_bad hn))
      have HN := Lib.hid (rnext_bad r s a k ha hs m wr hm hr hn)
      clear hn H
      go_wp2_with fail
      refine HN.out.mono ?_
      rintro e w1 ⟨rfl, hs1⟩
      go_wp2
      refine ⟨rfl, ?_⟩
      rw [HX.out]
      exact ⟨rfl, (by repeat' (first | (with_reducible exact Bes.refl _ _) | (with_reducible refine Bes.drew ?_) | (with_reducible refine Bes.drewN ?_ _) | (with_reducible refine Bes.alloc ?_ _) | (with_reducible refine Bes.setCell ?_ _ _) | (with_reducible refine Bes.setCell_new ?_ ?_ _) | (with_reducible refine Bes.belowB ?_ hb5 ?_) | (with_reducible refine Bes.belowB ?_ hb4 ?_) | (with_reducible refine Bes.belowB ?_ hb3 ?_) | (with_reducible refine Bes.belowB ?_ hb2 ?_) | (with_reducible refine Bes.belowB ?_ hb1 ?_) | (with_reducible refine Bes.belowB ?_ hbr ?_) | (with_reducible refine Bes.belowB ?_ hb ?_) | (with_reducible refine Bes.trans ?_ hs5) | (with_reducible refine Bes.trans ?_ hs4) | (with_reducible refine Bes.trans ?_ hs3) | (with_reducible refine Bes.trans ?_ hs2) | (with_reducible refine Bes.trans ?_ hs1) | (show _ ≤ _; simp; done) | (show _ ≤ _; simp; omega) | omega))⟩
    | good tr =>
      obtain ⟨t, rest⟩ := tr
      obtain ⟨h1, hk, hrest⟩ := nextS_good hn
      obtain ⟨g1, g2, g3, _⟩ := nextT_good h1
      obtain ⟨g5, g6⟩ := nextS_shorter hn
      obtain ⟨p, hp⟩ : ∃ p, a + (nextT (s.data.toList.drop a)).1 = p := ⟨_, rfl⟩
      have HN := Lib.hid (rnext_good r s a p t ha hs m wr hm hr h1 hk hp)
      simp only [List.length_drop, Array.length_toList, show s.data.size = s.size from rfl] at g1
      have hq : p + t.len ≤ s.size := by omega
      rw [List.drop_drop, ← Nat.add_assoc, hp] at hrest
      subst hrest
      have hqa : a < p + t.len := by simp only [List.length_drop, Array.length_toList, show s.data.size = s.size from rfl] at g5; omega
      obtain ⟨q, hq'⟩ : ∃ q, p + t.len = q := ⟨_, rfl⟩
      rw [hq'] at hq hqa hn
      unfold tkV at HN
      rw [hq'] at HN
      clear g1 g5 h1 hp
      have ltr := hr.lt
      have ltB : w.heap.size + 1 < wr.heap.size := lt_of_block hB1
      have neB0 : w.heap.size ≠ r := by omega
      have neB1 : w.heap.size + 1 ≠ r := by omega
      cases hw : (t.kind == 6 && t.s == [93]) with
      | true =>
        have HX := Lib.hid (H.out.symm.trans (arrS_end hn hw))
        have HW := Lib.hid hw
        clear hn H hw
        go_wp2_with fail
        refine HN.out.mono ?_
        rintro e w1 ⟨rfl, hr1, hs1⟩
        go_wp2_with fail
        refine (word_in' _ _ _ _ _ _ _ true HW.out _).mono ?_
        rintro e w2 ⟨rfl, hb2⟩
        obtain ⟨hc2, hf2⟩ := bcell hb2
        have hlt1 := hs1.size
        have k0 : w2.heap[w.heap.size]? = wr.heap[w.heap.size]? := (hb2.block _ (by simp; omega)).trans ((Below.heap_alloc _ _ _ (by omega)).trans (hs1.block _ (by omega) neB0))
        have k1 : w2.heap[w.heap.size + 1]? = wr.heap[w.heap.size + 1]? := (hb2.block _ (by simp; omega)).trans ((Below.heap_alloc _ _ _ (by omega)).trans (hs1.block _ (by omega) neB1))
        obtain ⟨a0, a1, a2, a3, a4, a5, af⟩ := six_of (k0.trans hB0)
        obtain ⟨b0, b1, b2, b3, b4, b5, bf⟩ := six_of (k1.trans hB1)
        go_wp2
        refine bodyPost_ret (v := .agg #[.int .i64 6, .int .i64 0, .int .i64 0, .string ⟨#[]⟩, .slice none 0 0, .slice vp acc.length vc]) (by simp [results, Tryz.results74, go_sem, a0, a1, a2, a3, a4, a5, af]) rfl ?_
        rw [HX.out]
        have hbw : Bes r wr w2 := hs1.trans ((by repeat' (first | (with_reducible exact Bes.refl _ _) | (with_reducible refine Bes.drew ?_) | (with_reducible refine Bes.drewN ?_ _) | (with_reducible refine Bes.alloc ?_ _) | (with_reducible refine Bes.setCell ?_ _ _) | (with_reducible refine Bes.setCell_new ?_ ?_ _) | (with_reducible refine Bes.belowB ?_ hb5 ?_) | (with_reducible refine Bes.belowB ?_ hb4 ?_) | (with_reducible refine Bes.belowB ?_ hb3 ?_) | (with_reducible refine Bes.belowB ?_ hb2 ?_) | (with_reducible refine Bes.belowB ?_ hb1 ?_) | (with_reducible refine Bes.belowB ?_ hbr ?_) | (with_reducible refine Bes.belowB ?_ hb ?_) | (with_reducible refine Bes.trans ?_ hs5) | (with_reducible refine Bes.trans ?_ hs4) | (with_reducible refine Bes.trans ?_ hs3) | (with_reducible refine Bes.trans ?_ hs2) | (with_reducible refine Bes.trans ?_ hs1) | (show _ ≤ _; simp; done) | (show _ ≤ _; simp; omega) | omega)))
        have hO := objAt_arr (S' := fun b => w.heap.size + 2 ≤ b) hown hkids (fun b hb => hb.1) (fun b hb => hb)
        have hO2 := hO.grow (S' := fun b => w.heap.size + 2 ≤ b) (w' := w2) (fun b h1 h2 => ⟨h1, hbw.block b h2 (by omega)⟩)
        refine ⟨_, q, rfl, hq, rfl, objAt_out hO2 (by omega) ?_, (hr1.below (w' := w2) (by repeat' (first | (with_reducible exact Below.refl _ _) | (with_reducible refine Below.drew ?_) | (with_reducible refine belowDrewN ?_ _) | (with_reducible refine belowIter ?_ ?_ _ _) | (with_reducible refine Below.setCell ?_ ?_ _) | (with_reducible refine Below.alloc ?_ ?_ _) | (with_reducible refine Below.trans ?_ (Below.mono hb4 ?_)) | (with_reducible refine Below.trans ?_ (Below.mono hb3 ?_)) | (with_reducible refine Below.trans ?_ (Below.mono hb2 ?_)) | (with_reducible refine Below.trans ?_ (Below.mono hb1 ?_)) | (with_reducible refine Below.trans ?_ (Below.mono hbr ?_)) | (with_reducible refine Below.trans ?_ (Below.mono hb ?_)) | (simp; done) | (simp; omega) | omega))).belowB (B := r + 1) (by repeat' (first | (with_reducible exact Below.refl _ _) | (with_reducible refine Below.setCell ?_ ?_ _) | (with_reducible refine Below.alloc ?_ ?_ _) | (show _ ≤ _; simp; done) | (show _ ≤ _; simp; omega) | omega)) (by omega), ?_⟩
        · intro b hb
          rw [Below.heap_setCell _ _ _ _ (by show b ≠ w.heap.size; omega), Below.heap_setCell _ _ _ _ (by show b ≠ w.heap.size; omega), Below.heap_setCell _ _ _ _ (by show b ≠ w.heap.size; omega), Below.heap_setCell _ _ _ _ (by show b ≠ w.heap.size; omega), Below.heap_setCell _ _ _ _ (by show b ≠ w.heap.size; omega), Below.heap_setCell _ _ _ _ (by show b ≠ w.heap.size; omega)]
        · have hs3 : Bes r w w2 := hbes.trans hbw
          (repeat' (first | (with_reducible exact hs3) | (with_reducible refine Bes.setCell_new ?_ ?_ _) | (show _ ≤ _; simp; done) | (show _ ≤ _; simp; omega) | omega))
      | false =>
        have HW := Lib.hid hw
        have HE := fun (hb : ¬ (beginsS t = true ∧ 0 < d ∧ 8191 ≤ acc.length)) W (hW : MaxW W m) (hR : RdAt W r s q) => arr_elem s m d fuel r a p q acc T HC.out t hn hw hb H hq hq' hk g3 g2 W hW hR
        cases hbg : beginsS t with
        | false =>
          have HB := Lib.hid (HE (by simp [hbg]))
          have HBG := Lib.hid hbg
          clear hn H hw hbg HE
          go_wp2_with fail
          refine HN.out.mono ?_
          rintro e w1 ⟨rfl, hr1, hs1⟩
          go_wp2_with fail
          refine (word_in' _ _ _ _ _ _ _ false HW.out _).mono ?_
          rintro e w2 ⟨rfl, hb2⟩
          obtain ⟨hc2, hf2⟩ := bcell hb2
          have hlt1 := hs1.size
          have hlt2 : w1.heap.size + 1 ≤ w2.heap.size := by have := hb2.size; simp at this; omega
          go_wp2_with fail
          refine (begins_tok t _ _ _ HBG.out _).mono ?_
          rintro e w3 ⟨rfl, hb3⟩
          obtain ⟨tt, htt⟩ : ∃ tt, w1.heap.size = tt := ⟨_, rfl⟩
          have k0 : w3.heap[w.heap.size]? = wr.heap[w.heap.size]? := (hb3.block _ (by omega)).trans ((hb2.block _ (by simp; omega)).trans ((Below.heap_alloc _ _ _ (by omega)).trans (hs1.block _ (by omega) neB0)))
          have k1 : w3.heap[w.heap.size + 1]? = wr.heap[w.heap.size + 1]? := (hb3.block _ (by omega)).trans ((hb2.block _ (by simp; omega)).trans ((Below.heap_alloc _ _ _ (by omega)).trans (hs1.block _ (by omega) neB1)))
          have k2 := (hb3.block w1.heap.size (by omega)).trans ((hb2.block w1.heap.size (by simp)).trans (heap_new_at w1 _ _ rfl))
          have hbw1 : Below w1.heap.size w1 w3 := (by repeat' (first | (with_reducible exact Below.refl _ _) | (with_reducible refine Below.drew ?_) | (with_reducible refine belowDrewN ?_ _) | (with_reducible refine belowIter ?_ ?_ _ _) | (with_reducible refine Below.setCell ?_ ?_ _) | (with_reducible refine Below.alloc ?_ ?_ _) | (with_reducible refine Below.trans ?_ (Below.mono hb4 ?_)) | (with_reducible refine Below.trans ?_ (Below.mono hb3 ?_)) | (with_reducible refine Below.trans ?_ (Below.mono hb2 ?_)) | (with_reducible refine Below.trans ?_ (Below.mono hb1 ?_)) | (with_reducible refine Below.trans ?_ (Below.mono hbr ?_)) | (with_reducible refine Below.trans ?_ (Below.mono hb ?_)) | (simp; done) | (simp; omega) | omega))
          have hs3 : Bes r wr w3 := hs1.trans (.of_below hbw1)
          have hr3 := hr1.below hbw1
          have HPOS := hr.pos
          rw [htt] at k2
          rw [htt]
          obtain ⟨b0, b1, b2, b3, b4, b5, bf⟩ := six_of (k1.trans hB1)
          have htb : wr.heap.size ≤ tt := by omega
          have httw : tt < w3.heap.size := lt_of_block k2
          obtain ⟨c0, c1, c2, c3, c4, cf⟩ := five_of k2
          have B0 := k0.trans hB0
          have B1 := k1.trans hB1
          have hown3 : w3.ownsRow _ _ _ _ _ _ := World.ownsRow.kept hown (row := some r) ⟨hs3.os, hs3.tape, hs3.output, hs3.size, fun k h1 h2 => hs3.block k h1 (by intro h; exact h2 (by rw [h]))⟩ (.inr (by intro h; have := own_base hown _ h; omega))
          have hkids3 := hkids.grow (w' := w3) (fun b h1 h2 => ⟨h1, hs3.block b h2 (by have := h1.1; omega)⟩)
          have hm3 : MaxW w3 m := hm.bes hs3 (hm.ne hr)
          clear k0 k1 hc2 hf2 hb2 hb3 htt hlt1 HN HW HBG hr hB0 hB1 hown hkids hbw1 hs1 hr1 hm
          go_wp2
          have hm4 : MaxW w3.drew m := hm3
          have hr4 : RdAt w3.drew r s q := hr3
          have HOb := HB.out _ hm4 hr4
          have hbd : Bes r w w3.drew := hbes.trans hs3.drew
          have hlt3 : w.heap.size + 1 < w3.drew.heap.size := lt_of_block B1
          obtain ⟨i0, hi0, y0, y1, y2⟩ := info_parts Tryz.infoOb
          have hBw3 : w.heap.size + 2 ≤ w3.drew.heap.size := by omega
          have hown3' : w3.drew.ownsRow (w.heap.size + 2) 26 6 (.slice vp acc.length vc) acc.length css.flatten := hown3
          have hkids3' : KidsAt (fun b => w.heap.size + 2 ≤ b ∧ (Value.slice vp acc.length vc).ownBlock ≠ some b) (d + 1) w3.drew css acc := hkids3.grow (fun b h1 h2 => ⟨h1, rfl⟩)
          go_region_law (first
            | (go_simp; go_at_call 36; refine HOb.mono ?_; rintro e w4 (⟨k, rfl, HX, hs4⟩ | ⟨o, p1, n1, c1, p2, n2, c2, z, rfl, hz1, hz2, hz3, HX, hO, hR4, hs4⟩); exact ⟨rfl, by rw [HX.out]; exact ⟨rfl, hbd.trans hs4⟩⟩; have d5 : w4.cell? ⟨w.heap.size + 1, 5, none⟩ = some (.slice vp acc.length vc) := (World.cell?_of_block (hs4.block _ hlt3 neB1)).trans b5; have df : w4.frozen? ⟨w.heap.size + 1, 5, none⟩ = false := (World.frozen?_of_block (hs4.block _ hlt3 neB1)).trans (bf 5); have hown4 := ownRow_bes hown3' hs4 (by omega); have hlt4 := hs4.size; have hltB4 : w.heap.size + 1 < w4.heap.size := Nat.lt_of_lt_of_le hlt3 hlt4)
            | (refine step_append_lies _ (by rfl) _ _ _ (by rfl) (w.heap.size + 2) 26 i0 _ 6 88 Tryz.underlying24 hi0 y0 y1 y2 rfl (by omega) (.slice vp acc.length vc) acc.length css.flatten (by rfl) (hown4.alloc _)
                  ⟨w4.heap.size, 0, none⟩ 1 1 (objCells o.kind o.n o.g o.s (.slice p1 n1 c1) (.slice p2 n2 c2)) (by rfl) (by rfl) (World.news_of_block (cs := #[.int .i64 o.kind, .int .i64 o.n, .int .i64 o.g, .string ⟨o.s.toArray⟩, .slice p1 n1 c1, .slice p2 n2 c2]) (t := 26) (fr := (0, 0)) (heap_alloc_new w4 _)) (objCells_one _ _ _ _ _ _ _)
                  (by omega) (by unfold maxLen; omega) (by omega) (by simp; omega) (w4.heap.size + 1) (by simp) ?_; intro gg cap w5 hown5 hgrow hat hlt5
               have hfar := own_base hown4
               have e5 : w5.cell? ⟨w.heap.size + 1, 5, none⟩ = some (.slice vp acc.length vc) := (hgrow.cell_far ⟨w.heap.size + 1, 5, none⟩ (by simp; omega) (by intro h; have h2 : w.heap.size + 2 ≤ w.heap.size + 1 := hfar _ h.symm; omega)).trans ((World.cell?_of_block (Below.heap_alloc _ _ _ (by show w.heap.size + 1 < _; omega))).trans d5)
               have ef : w5.frozen? ⟨w.heap.size + 1, 5, none⟩ = false := (hgrow.frozen_far ⟨w.heap.size + 1, 5, none⟩ (by simp; omega) (by intro h; have h2 : w.heap.size + 2 ≤ w.heap.size + 1 := hfar _ h.symm; omega)).trans ((World.frozen?_of_block (Below.heap_alloc _ _ _ (by show w.heap.size + 1 < _; omega))).trans df)))
          all_goals go_wp2_with fail
          all_goals (go_roundw; (case rel => exact arr_round s m d fuel r z w w3.drew w4 w5 gg cap vp vc acc css o _ _ _ _ _ _ T hlt B0 B1 hown3' hkids3' hO hs4 hbd hR4 hm4 hr4 hown5 hgrow hat hz1 HX (by omega)); (case measure => (rw [HPOS, (arr_rd (B := w.heap.size + 2) (x := w.heap.size + 1) (by omega) (Nat.lt_trans hlt (by omega)) hown3' hs4 hgrow hR4 (by omega)).pos]; omega)))
        | true =>
          have HBG := Lib.hid hbg
          by_cases h0 : 0 < d
          · have e0 : decide ((24 : Int) - (d : Int) < 24) = true := by simp; omega
            by_cases h9 : 8191 ≤ acc.length
            · have e9 : decide ((acc.length : Int) ≥ 8191) = true := by simp; omega
              have HX := Lib.hid (H.out.symm.trans (arrS_many hn hw hbg h0 h9))
              clear hn H hw hbg HE
              go_wp2_with fail
              refine HN.out.mono ?_
              rintro e w1 ⟨rfl, hr1, hs1⟩
              go_wp2_with fail
              refine (word_in' _ _ _ _ _ _ _ false HW.out _).mono ?_
              rintro e w2 ⟨rfl, hb2⟩
              obtain ⟨hc2, hf2⟩ := bcell hb2
              have hlt1 := hs1.size
              have hlt2 : w1.heap.size + 1 ≤ w2.heap.size := by have := hb2.size; simp at this; omega
              go_wp2_with fail
              refine (begins_tok t _ _ _ HBG.out _).mono ?_
              rintro e w3 ⟨rfl, hb3⟩
              obtain ⟨tt, htt⟩ : ∃ tt, w1.heap.size = tt := ⟨_, rfl⟩
              have k0 : w3.heap[w.heap.size]? = wr.heap[w.heap.size]? := (hb3.block _ (by omega)).trans ((hb2.block _ (by simp; omega)).trans ((Below.heap_alloc _ _ _ (by omega)).trans (hs1.block _ (by omega) neB0)))
              have k1 : w3.heap[w.heap.size + 1]? = wr.heap[w.heap.size + 1]? := (hb3.block _ (by omega)).trans ((hb2.block _ (by simp; omega)).trans ((Below.heap_alloc _ _ _ (by omega)).trans (hs1.block _ (by omega) neB1)))
              have k2 := (hb3.block w1.heap.size (by omega)).trans ((hb2.block w1.heap.size (by simp)).trans (heap_new_at w1 _ _ rfl))
              have hbw1 : Below w1.heap.size w1 w3 := (by repeat' (first | (with_reducible exact Below.refl _ _) | (with_reducible refine Below.drew ?_) | (with_reducible refine belowDrewN ?_ _) | (with_reducible refine belowIter ?_ ?_ _ _) | (with_reducible refine Below.setCell ?_ ?_ _) | (with_reducible refine Below.alloc ?_ ?_ _) | (with_reducible refine Below.trans ?_ (Below.mono hb4 ?_)) | (with_reducible refine Below.trans ?_ (Below.mono hb3 ?_)) | (with_reducible refine Below.trans ?_ (Below.mono hb2 ?_)) | (with_reducible refine Below.trans ?_ (Below.mono hb1 ?_)) | (with_reducible refine Below.trans ?_ (Below.mono hbr ?_)) | (with_reducible refine Below.trans ?_ (Below.mono hb ?_)) | (simp; done) | (simp; omega) | omega))
              have hs3 : Bes r wr w3 := hs1.trans (.of_below hbw1)
              have hr3 := hr1.below hbw1
              have HPOS := hr.pos
              rw [htt] at k2
              rw [htt]
              obtain ⟨b0, b1, b2, b3, b4, b5, bf⟩ := six_of (k1.trans hB1)
              have htb : wr.heap.size ≤ tt := by omega
              have httw : tt < w3.heap.size := lt_of_block k2
              obtain ⟨c0, c1, c2, c3, c4, cf⟩ := five_of k2
              have B0 := k0.trans hB0
              have B1 := k1.trans hB1
              have hown3 : w3.ownsRow _ _ _ _ _ _ := World.ownsRow.kept hown (row := some r) ⟨hs3.os, hs3.tape, hs3.output, hs3.size, fun k h1 h2 => hs3.block k h1 (by intro h; exact h2 (by rw [h]))⟩ (.inr (by intro h; have := own_base hown _ h; omega))
              have hkids3 := hkids.grow (w' := w3) (fun b h1 h2 => ⟨h1, hs3.block b h2 (by have := h1.1; omega)⟩)
              have hm3 : MaxW w3 m := hm.bes hs3 (hm.ne hr)
              clear k0 k1 hc2 hf2 hb2 hb3 htt hlt1 HN HW HBG hr hB0 hB1 hown hkids hbw1 hs1 hr1 hm
              go_wp2
              exact ⟨rfl, by rw [HX.out]; exact ⟨rfl, hbes.trans hs3⟩⟩
            · have e9 : decide ((acc.length : Int) ≥ 8191) = false := by simp; omega
              have HB := Lib.hid (HE (fun h => h9 h.2.2))
              clear hn H hw hbg HE
              go_wp2_with fail
              refine HN.out.mono ?_
              rintro e w1 ⟨rfl, hr1, hs1⟩
              go_wp2_with fail
              refine (word_in' _ _ _ _ _ _ _ false HW.out _).mono ?_
              rintro e w2 ⟨rfl, hb2⟩
              obtain ⟨hc2, hf2⟩ := bcell hb2
              have hlt1 := hs1.size
              have hlt2 : w1.heap.size + 1 ≤ w2.heap.size := by have := hb2.size; simp at this; omega
              go_wp2_with fail
              refine (begins_tok t _ _ _ HBG.out _).mono ?_
              rintro e w3 ⟨rfl, hb3⟩
              obtain ⟨tt, htt⟩ : ∃ tt, w1.heap.size = tt := ⟨_, rfl⟩
              have k0 : w3.heap[w.heap.size]? = wr.heap[w.heap.size]? := (hb3.block _ (by omega)).trans ((hb2.block _ (by simp; omega)).trans ((Below.heap_alloc _ _ _ (by omega)).trans (hs1.block _ (by omega) neB0)))
              have k1 : w3.heap[w.heap.size + 1]? = wr.heap[w.heap.size + 1]? := (hb3.block _ (by omega)).trans ((hb2.block _ (by simp; omega)).trans ((Below.heap_alloc _ _ _ (by omega)).trans (hs1.block _ (by omega) neB1)))
              have k2 := (hb3.block w1.heap.size (by omega)).trans ((hb2.block w1.heap.size (by simp)).trans (heap_new_at w1 _ _ rfl))
              have hbw1 : Below w1.heap.size w1 w3 := (by repeat' (first | (with_reducible exact Below.refl _ _) | (with_reducible refine Below.drew ?_) | (with_reducible refine belowDrewN ?_ _) | (with_reducible refine belowIter ?_ ?_ _ _) | (with_reducible refine Below.setCell ?_ ?_ _) | (with_reducible refine Below.alloc ?_ ?_ _) | (with_reducible refine Below.trans ?_ (Below.mono hb4 ?_)) | (with_reducible refine Below.trans ?_ (Below.mono hb3 ?_)) | (with_reducible refine Below.trans ?_ (Below.mono hb2 ?_)) | (with_reducible refine Below.trans ?_ (Below.mono hb1 ?_)) | (with_reducible refine Below.trans ?_ (Below.mono hbr ?_)) | (with_reducible refine Below.trans ?_ (Below.mono hb ?_)) | (simp; done) | (simp; omega) | omega))
              have hs3 : Bes r wr w3 := hs1.trans (.of_below hbw1)
              have hr3 := hr1.below hbw1
              have HPOS := hr.pos
              rw [htt] at k2
              rw [htt]
              obtain ⟨b0, b1, b2, b3, b4, b5, bf⟩ := six_of (k1.trans hB1)
              have htb : wr.heap.size ≤ tt := by omega
              have httw : tt < w3.heap.size := lt_of_block k2
              obtain ⟨c0, c1, c2, c3, c4, cf⟩ := five_of k2
              have B0 := k0.trans hB0
              have B1 := k1.trans hB1
              have hown3 : w3.ownsRow _ _ _ _ _ _ := World.ownsRow.kept hown (row := some r) ⟨hs3.os, hs3.tape, hs3.output, hs3.size, fun k h1 h2 => hs3.block k h1 (by intro h; exact h2 (by rw [h]))⟩ (.inr (by intro h; have := own_base hown _ h; omega))
              have hkids3 := hkids.grow (w' := w3) (fun b h1 h2 => ⟨h1, hs3.block b h2 (by have := h1.1; omega)⟩)
              have hm3 : MaxW w3 m := hm.bes hs3 (hm.ne hr)
              clear k0 k1 hc2 hf2 hb2 hb3 htt hlt1 HN HW HBG hr hB0 hB1 hown hkids hbw1 hs1 hr1 hm
              go_wp2
              have hm4 : MaxW w3.drew m := hm3
              have hr4 : RdAt w3.drew r s q := hr3
              have HOb := HB.out _ hm4 hr4
              have hbd : Bes r w w3.drew := hbes.trans hs3.drew
              have hlt3 : w.heap.size + 1 < w3.drew.heap.size := lt_of_block B1
              obtain ⟨i0, hi0, y0, y1, y2⟩ := info_parts Tryz.infoOb
              have hBw3 : w.heap.size + 2 ≤ w3.drew.heap.size := by omega
              have hown3' : w3.drew.ownsRow (w.heap.size + 2) 26 6 (.slice vp acc.length vc) acc.length css.flatten := hown3
              have hkids3' : KidsAt (fun b => w.heap.size + 2 ≤ b ∧ (Value.slice vp acc.length vc).ownBlock ≠ some b) (d + 1) w3.drew css acc := hkids3.grow (fun b h1 h2 => ⟨h1, rfl⟩)
              go_region_law (first
                | (go_simp; go_at_call 36; refine HOb.mono ?_; rintro e w4 (⟨k, rfl, HX, hs4⟩ | ⟨o, p1, n1, c1, p2, n2, c2, z, rfl, hz1, hz2, hz3, HX, hO, hR4, hs4⟩); exact ⟨rfl, by rw [HX.out]; exact ⟨rfl, hbd.trans hs4⟩⟩; have d5 : w4.cell? ⟨w.heap.size + 1, 5, none⟩ = some (.slice vp acc.length vc) := (World.cell?_of_block (hs4.block _ hlt3 neB1)).trans b5; have df : w4.frozen? ⟨w.heap.size + 1, 5, none⟩ = false := (World.frozen?_of_block (hs4.block _ hlt3 neB1)).trans (bf 5); have hown4 := ownRow_bes hown3' hs4 (by omega); have hlt4 := hs4.size; have hltB4 : w.heap.size + 1 < w4.heap.size := Nat.lt_of_lt_of_le hlt3 hlt4)
                | (refine step_append_lies _ (by rfl) _ _ _ (by rfl) (w.heap.size + 2) 26 i0 _ 6 88 Tryz.underlying24 hi0 y0 y1 y2 rfl (by omega) (.slice vp acc.length vc) acc.length css.flatten (by rfl) (hown4.alloc _)
                      ⟨w4.heap.size, 0, none⟩ 1 1 (objCells o.kind o.n o.g o.s (.slice p1 n1 c1) (.slice p2 n2 c2)) (by rfl) (by rfl) (World.news_of_block (cs := #[.int .i64 o.kind, .int .i64 o.n, .int .i64 o.g, .string ⟨o.s.toArray⟩, .slice p1 n1 c1, .slice p2 n2 c2]) (t := 26) (fr := (0, 0)) (heap_alloc_new w4 _)) (objCells_one _ _ _ _ _ _ _)
                      (by omega) (by unfold maxLen; omega) (by omega) (by simp; omega) (w4.heap.size + 1) (by simp) ?_; intro gg cap w5 hown5 hgrow hat hlt5
                   have hfar := own_base hown4
                   have e5 : w5.cell? ⟨w.heap.size + 1, 5, none⟩ = some (.slice vp acc.length vc) := (hgrow.cell_far ⟨w.heap.size + 1, 5, none⟩ (by simp; omega) (by intro h; have h2 : w.heap.size + 2 ≤ w.heap.size + 1 := hfar _ h.symm; omega)).trans ((World.cell?_of_block (Below.heap_alloc _ _ _ (by show w.heap.size + 1 < _; omega))).trans d5)
                   have ef : w5.frozen? ⟨w.heap.size + 1, 5, none⟩ = false := (hgrow.frozen_far ⟨w.heap.size + 1, 5, none⟩ (by simp; omega) (by intro h; have h2 : w.heap.size + 2 ≤ w.heap.size + 1 := hfar _ h.symm; omega)).trans ((World.frozen?_of_block (Below.heap_alloc _ _ _ (by show w.heap.size + 1 < _; omega))).trans df)))
              all_goals go_wp2_with fail
              all_goals (go_roundw; (case rel => exact arr_round s m d fuel r z w w3.drew w4 w5 gg cap vp vc acc css o _ _ _ _ _ _ T hlt B0 B1 hown3' hkids3' hO hs4 hbd hR4 hm4 hr4 hown5 hgrow hat hz1 HX (by omega)); (case measure => (rw [HPOS, (arr_rd (B := w.heap.size + 2) (x := w.heap.size + 1) (by omega) (Nat.lt_trans hlt (by omega)) hown3' hs4 hgrow hR4 (by omega)).pos]; omega)))
          · have e0 : decide ((24 : Int) - (d : Int) < 24) = false := by simp; omega
            have HB := Lib.hid (HE (fun h => h0 h.2.1))
            clear hn H hw hbg HE
            go_wp2_with fail
            refine HN.out.mono ?_
            rintro e w1 ⟨rfl, hr1, hs1⟩
            go_wp2_with fail
            refine (word_in' _ _ _ _ _ _ _ false HW.out _).mono ?_
            rintro e w2 ⟨rfl, hb2⟩
            obtain ⟨hc2, hf2⟩ := bcell hb2
            have hlt1 := hs1.size
            have hlt2 : w1.heap.size + 1 ≤ w2.heap.size := by have := hb2.size; simp at this; omega
            go_wp2_with fail
            refine (begins_tok t _ _ _ HBG.out _).mono ?_
            rintro e w3 ⟨rfl, hb3⟩
            obtain ⟨tt, htt⟩ : ∃ tt, w1.heap.size = tt := ⟨_, rfl⟩
            have k0 : w3.heap[w.heap.size]? = wr.heap[w.heap.size]? := (hb3.block _ (by omega)).trans ((hb2.block _ (by simp; omega)).trans ((Below.heap_alloc _ _ _ (by omega)).trans (hs1.block _ (by omega) neB0)))
            have k1 : w3.heap[w.heap.size + 1]? = wr.heap[w.heap.size + 1]? := (hb3.block _ (by omega)).trans ((hb2.block _ (by simp; omega)).trans ((Below.heap_alloc _ _ _ (by omega)).trans (hs1.block _ (by omega) neB1)))
            have k2 := (hb3.block w1.heap.size (by omega)).trans ((hb2.block w1.heap.size (by simp)).trans (heap_new_at w1 _ _ rfl))
            have hbw1 : Below w1.heap.size w1 w3 := (by repeat' (first | (with_reducible exact Below.refl _ _) | (with_reducible refine Below.drew ?_) | (with_reducible refine belowDrewN ?_ _) | (with_reducible refine belowIter ?_ ?_ _ _) | (with_reducible refine Below.setCell ?_ ?_ _) | (with_reducible refine Below.alloc ?_ ?_ _) | (with_reducible refine Below.trans ?_ (Below.mono hb4 ?_)) | (with_reducible refine Below.trans ?_ (Below.mono hb3 ?_)) | (with_reducible refine Below.trans ?_ (Below.mono hb2 ?_)) | (with_reducible refine Below.trans ?_ (Below.mono hb1 ?_)) | (with_reducible refine Below.trans ?_ (Below.mono hbr ?_)) | (with_reducible refine Below.trans ?_ (Below.mono hb ?_)) | (simp; done) | (simp; omega) | omega))
            have hs3 : Bes r wr w3 := hs1.trans (.of_below hbw1)
            have hr3 := hr1.below hbw1
            have HPOS := hr.pos
            rw [htt] at k2
            rw [htt]
            obtain ⟨b0, b1, b2, b3, b4, b5, bf⟩ := six_of (k1.trans hB1)
            have htb : wr.heap.size ≤ tt := by omega
            have httw : tt < w3.heap.size := lt_of_block k2
            obtain ⟨c0, c1, c2, c3, c4, cf⟩ := five_of k2
            have B0 := k0.trans hB0
            have B1 := k1.trans hB1
            have hown3 : w3.ownsRow _ _ _ _ _ _ := World.ownsRow.kept hown (row := some r) ⟨hs3.os, hs3.tape, hs3.output, hs3.size, fun k h1 h2 => hs3.block k h1 (by intro h; exact h2 (by rw [h]))⟩ (.inr (by intro h; have := own_base hown _ h; omega))
            have hkids3 := hkids.grow (w' := w3) (fun b h1 h2 => ⟨h1, hs3.block b h2 (by have := h1.1; omega)⟩)
            have hm3 : MaxW w3 m := hm.bes hs3 (hm.ne hr)
            clear k0 k1 hc2 hf2 hb2 hb3 htt hlt1 HN HW HBG hr hB0 hB1 hown hkids hbw1 hs1 hr1 hm
            go_wp2
            have hm4 : MaxW w3.drew m := hm3
            have hr4 : RdAt w3.drew r s q := hr3
            have HOb := HB.out _ hm4 hr4
            have hbd : Bes r w w3.drew := hbes.trans hs3.drew
            have hlt3 : w.heap.size + 1 < w3.drew.heap.size := lt_of_block B1
            obtain ⟨i0, hi0, y0, y1, y2⟩ := info_parts Tryz.infoOb
            have hBw3 : w.heap.size + 2 ≤ w3.drew.heap.size := by omega
            have hown3' : w3.drew.ownsRow (w.heap.size + 2) 26 6 (.slice vp acc.length vc) acc.length css.flatten := hown3
            have hkids3' : KidsAt (fun b => w.heap.size + 2 ≤ b ∧ (Value.slice vp acc.length vc).ownBlock ≠ some b) (d + 1) w3.drew css acc := hkids3.grow (fun b h1 h2 => ⟨h1, rfl⟩)
            go_region_law (first
              | (go_simp; go_at_call 36; refine HOb.mono ?_; rintro e w4 (⟨k, rfl, HX, hs4⟩ | ⟨o, p1, n1, c1, p2, n2, c2, z, rfl, hz1, hz2, hz3, HX, hO, hR4, hs4⟩); exact ⟨rfl, by rw [HX.out]; exact ⟨rfl, hbd.trans hs4⟩⟩; have d5 : w4.cell? ⟨w.heap.size + 1, 5, none⟩ = some (.slice vp acc.length vc) := (World.cell?_of_block (hs4.block _ hlt3 neB1)).trans b5; have df : w4.frozen? ⟨w.heap.size + 1, 5, none⟩ = false := (World.frozen?_of_block (hs4.block _ hlt3 neB1)).trans (bf 5); have hown4 := ownRow_bes hown3' hs4 (by omega); have hlt4 := hs4.size; have hltB4 : w.heap.size + 1 < w4.heap.size := Nat.lt_of_lt_of_le hlt3 hlt4)
              | (refine step_append_lies _ (by rfl) _ _ _ (by rfl) (w.heap.size + 2) 26 i0 _ 6 88 Tryz.underlying24 hi0 y0 y1 y2 rfl (by omega) (.slice vp acc.length vc) acc.length css.flatten (by rfl) (hown4.alloc _)
                    ⟨w4.heap.size, 0, none⟩ 1 1 (objCells o.kind o.n o.g o.s (.slice p1 n1 c1) (.slice p2 n2 c2)) (by rfl) (by rfl) (World.news_of_block (cs := #[.int .i64 o.kind, .int .i64 o.n, .int .i64 o.g, .string ⟨o.s.toArray⟩, .slice p1 n1 c1, .slice p2 n2 c2]) (t := 26) (fr := (0, 0)) (heap_alloc_new w4 _)) (objCells_one _ _ _ _ _ _ _)
                    (by omega) (by unfold maxLen; omega) (by omega) (by simp; omega) (w4.heap.size + 1) (by simp) ?_; intro gg cap w5 hown5 hgrow hat hlt5
                 have hfar := own_base hown4
                 have e5 : w5.cell? ⟨w.heap.size + 1, 5, none⟩ = some (.slice vp acc.length vc) := (hgrow.cell_far ⟨w.heap.size + 1, 5, none⟩ (by simp; omega) (by intro h; have h2 : w.heap.size + 2 ≤ w.heap.size + 1 := hfar _ h.symm; omega)).trans ((World.cell?_of_block (Below.heap_alloc _ _ _ (by show w.heap.size + 1 < _; omega))).trans d5)
                 have ef : w5.frozen? ⟨w.heap.size + 1, 5, none⟩ = false := (hgrow.frozen_far ⟨w.heap.size + 1, 5, none⟩ (by simp; omega) (by intro h; have h2 : w.heap.size + 2 ≤ w.heap.size + 1 := hfar _ h.symm; omega)).trans ((World.frozen?_of_block (Below.heap_alloc _ _ _ (by show w.heap.size + 1 < _; omega))).trans df)))
            all_goals go_wp2_with fail
            all_goals (go_roundw; (case rel => exact arr_round s m d fuel r z w w3.drew w4 w5 gg cap vp vc acc css o _ _ _ _ _ _ T hlt B0 B1 hown3' hkids3' hO hs4 hbd hR4 hm4 hr4 hown5 hgrow hat hz1 HX (by omega)); (case measure => (rw [HPOS, (arr_rd (B := w.heap.size + 2) (x := w.heap.size + 1) (by omega) (Nat.lt_trans hlt (by omega)) hown3' hs4 hgrow hR4 (by omega)).pos]; omega)))
end Go.Proofs.YtpadlepdgnlgnaaGreatDoor
