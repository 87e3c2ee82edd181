/- The reference's reader of a mapping: its memory; what it may turn; its next token. -/
import Derived.Test.YtibffdaljmmdoaaGreatDoorGRdB
import Derived.Test.YtibffdaljmmdoaaGreatDoorGRefC
import Derived.Test.YtibffdaljmmdoaaGreatDoorGUtf
import Derived.Test.YtibffdaljmmdoaaGreatDoorGRefB
set_option linter.all false
namespace Go.Proofs.YtibffdaljmmdoaaGreatDoor
open Go.RowKit Fo Go.Maps

/-- The reader's block: the text, the place, the codes' size, the rows, the count, the error. -/
def RB (w : World) (r : Nat) (s : ByteArray) (a z : Nat) (v : Value) (t : Nat) (e : Int) : Prop :=
  w.heap[r]? = some (.cells #[.string s, .int .i64 a, .int .i64 z, v, .int .i64 t, .int .i64 e] 57 (0, 0))
/-- Blocks that the reader leaves alone: those below B, and those that are neither a reader nor a row of mappings. -/
def Kp (B : Nat) (w : World) (k : Nat) : Prop := k < B ∨ ∀ cs fr, w.heap[k]? ≠ some (.cells cs 57 fr) ∧ w.heap[k]? ≠ some (.cells cs 44 fr)
theorem Kp.kept {B k : Nat} {w w' : World} (h : Kp B w k) (e : w'.heap[k]? = w.heap[k]?) : Kp B w' k := by
  unfold Kp at *; rw [e]; exact h
structure Fq (B : Nat) (w w' : World) : Prop where
  os : w'.os = w.os
  tape : w'.tape = w.tape
  output : w'.output = w.output
  size : w.heap.size ≤ w'.heap.size
  block : ∀ k, k < w.heap.size → Kp B w k → w'.heap[k]? = w.heap[k]?
theorem Fq.refl (B : Nat) (w : World) : Fq B w w := ⟨rfl, rfl, rfl, Nat.le_refl _, fun _ _ _ => rfl⟩
theorem Fq.trans {B : Nat} {a b c : World} (h : Fq B a b) (k : Fq B b c) : Fq B a c :=
  ⟨k.os.trans h.os, k.tape.trans h.tape, k.output.trans h.output, Nat.le_trans h.size k.size, fun i hi hp => (k.block i (Nat.lt_of_lt_of_le hi h.size) (hp.kept (h.block i hi hp))).trans (h.block i hi hp)⟩
theorem Fq.of_below {B : Nat} {w w' : World} (h : Below w.heap.size w w') : Fq B w w' := ⟨h.os, h.tape, h.output, h.size, fun k hk _ => h.block k hk⟩
theorem Fq.below {B : Nat} {w w' : World} (h : Fq B w w') (hB : B ≤ w.heap.size) : Below B w w' := ⟨h.os, h.tape, h.output, h.size, fun k hk => h.block k (by omega) (.inl hk)⟩
theorem Fq.belowB {B C : Nat} {a w w' : World} (h : Fq B a w) (hb : Below C w w') (hC : a.heap.size ≤ C) : Fq B a w' :=
  ⟨hb.os.trans h.os, hb.tape.trans h.tape, hb.output.trans h.output, Nat.le_trans h.size hb.size, fun k hk hp => (hb.block k (by omega)).trans (h.block k hk hp)⟩
theorem Fq.alloc {B : Nat} {a w : World} (h : Fq B a w) (o : Go.Obj) : Fq B a (w.alloc o) := h.belowB (C := a.heap.size) ((Below.refl _ _).alloc h.size _) (Nat.le_refl _)
theorem Fq.drew {B : Nat} {a w : World} (h : Fq B a w) : Fq B a w.drew := ⟨h.os, h.tape, h.output, h.size, h.block⟩
theorem Fq.drewN {B : Nat} {a w : World} (h : Fq B a w) (n : Nat) : Fq B a (w.drewN n) := ⟨h.os, h.tape, h.output, h.size, h.block⟩
theorem Fq.setCell_new {B : Nat} {a w : World} (h : Fq B a w) {p : Addr} (hp : a.heap.size ≤ p.block) (v : Value) : Fq B a (w.setCell p v) :=
  ⟨h.os, h.tape, h.output, by simp [World.setCell]; exact h.size, fun k hk hr => (Below.heap_setCell _ _ _ _ (by omega)).trans (h.block k hk hr)⟩
theorem Fq.set {B r : Nat} {w : World} (hr : B ≤ r) {cs : Array Value} {t : TypeId} {fr : Nat × Nat} (ht : t = 57 ∨ t = 44) (h : w.heap[r]? = some (.cells cs t fr)) (o : Nat) (v : Value) : Fq B w (w.setCell ⟨r, o, none⟩ v) :=
  ⟨rfl, rfl, rfl, by simp [World.setCell], fun k _ hk => Below.heap_setCell _ _ _ _ (by
    rintro rfl
    rcases hk with hk | hk
    · exact absurd hk (by simpa using hr)
    · rcases ht with rfl | rfl
      · exact (hk _ _).1 h
      · exact (hk _ _).2 h)⟩
theorem Fq.grown {B : Nat} {w w' : World} {v : Value} {n : Nat} {xs : List Value} (hown : w.ownsRow B 44 2 v n xs) (hg : w.grownBy w' v.ownBlock) : Fq B w w' :=
  ⟨hg.os, hg.tape, hg.output, hg.size, fun k hk hp => hg.block k hk (by
    intro he
    rcases hown.2 with ⟨rfl, _⟩ | ⟨g, cap, cur, rfl, hB, hgg, _⟩
    · simp [Value.ownBlock] at he
    · simp [Value.ownBlock] at he
      subst he
      rcases hp with hp | hp
      · omega
      · exact (hp _ _).2 hgg)⟩
/-- A token's box stays as it was. -/
theorem Fq.tok {B b : Nat} {w w' : World} {cs : Array Value} {t : TypeId} {fr : Nat × Nat} (h : Fq B w w') (hb : w.heap[b]? = some (.cells cs t fr)) (h1 : t ≠ 57) (h2 : t ≠ 44) : w'.heap[b]? = some (.cells cs t fr) :=
  (h.block b (Array.getElem?_eq_some_iff.1 hb).1 (.inr fun cs' fr' => by
    rw [hb]
    constructor
    · intro h; simp at h; exact h1 h.2.1
    · intro h; simp at h; exact h2 h.2.1)).trans hb
/-- The reader in the state σ, without an error. -/
structure RS (B : Nat) (w : World) (r : Nat) (s : ByteArray) (a : Nat) (σ : CS) : Prop where
  base : B ≤ r
  sorted : σ.m.Pairwise fun p q => p.1 < q.1
  many : σ.m.length ≤ σ.told
  told : σ.told ≤ 4096
  held : ∃ v, RB w r s a σ.size v σ.told 0 ∧ mownS w B v σ.m
/-- The reader behind an error. -/
def RE (B : Nat) (w : World) (r : Nat) (k : Int) : Prop := B ≤ r ∧ k ≠ 0 ∧ ∃ s a z v t, RB w r s a z v t k
theorem RB.lt {w : World} {r : Nat} {s : ByteArray} {a z t : Nat} {v : Value} {e : Int} (h : RB w r s a z v t e) : r < w.heap.size := (Array.getElem?_eq_some_iff.1 h).1
theorem RB.kept {w w' : World} {r : Nat} {s : ByteArray} {a z t : Nat} {v : Value} {e : Int} (h : RB w r s a z v t e) (hk : w'.heap[r]? = w.heap[r]?) : RB w' r s a z v t e := by
  unfold RB at *; rw [hk]; exact h
theorem RS.lt {B r a : Nat} {w : World} {s : ByteArray} {σ : CS} (h : RS B w r s a σ) : r < w.heap.size := by
  obtain ⟨v, h, _⟩ := h.held; exact h.lt
theorem RE.lt {B r : Nat} {w : World} {k : Int} (h : RE B w r k) : r < w.heap.size := by
  obtain ⟨_, _, _, _, _, _, _, h⟩ := h; exact h.lt
theorem mown_kept {w w' : World} {B : Nat} {v : Value} {m : CM} (h : mownS w B v m) (hb : Below w.heap.size w w') : mownS w' B v m :=
  World.ownsRow.kept h (row := none) ⟨hb.os, hb.tape, hb.output, hb.size, fun k hk _ => hb.block k hk⟩ (Classical.em _)
theorem mown_fq {w w' : World} {B : Nat} {v : Value} {m : CM} (h : mownS w B v m) {b : Nat} (hb : w.grownBy w' (some b)) (hne : ∀ cs fr, w.heap[b]? ≠ some (.cells cs 44 fr)) : mownS w' B v m :=
  World.ownsRow.kept h (row := some b) hb (by
    rcases h.2 with ⟨rfl, _⟩ | ⟨g, cap, cur, rfl, _, hg, _⟩
    · exact .inl rfl
    · refine .inr fun he => ?_
      simp [Value.ownBlock] at he
      subst he
      exact hne _ _ hg)
theorem RS.below {B r a : Nat} {w w' : World} {s : ByteArray} {σ : CS} (h : RS B w r s a σ) (hb : Below w.heap.size w w') : RS B w' r s a σ := by
  obtain ⟨v, h1, h2⟩ := h.held
  exact ⟨h.base, h.sorted, h.many, h.told, v, h1.kept (hb.block r h1.lt), mown_kept h2 hb⟩
theorem RE.below {B r : Nat} {w w' : World} {k : Int} (h : RE B w r k) (hb : Below w.heap.size w w') : RE B w' r k := by
  obtain ⟨h0, h1, s, a, z, v, t, h2⟩ := h
  exact ⟨h0, h1, s, a, z, v, t, h2.kept (hb.block r h2.lt)⟩
/-- One block turns. -/
def OneB (b : Nat) (w w' : World) : Prop := w.grownBy w' (some b)
theorem OneB.set (w : World) (b o : Nat) (v : Value) : OneB b w (w.setCell ⟨b, o, none⟩ v) :=
  ⟨rfl, rfl, rfl, by simp [World.setCell], fun k _ hk => Below.heap_setCell _ _ _ _ (by intro h; subst h; exact hk rfl)⟩
theorem OneB.more {b : Nat} {w w' : World} (h : OneB b w w') (o : Nat) (v : Value) : OneB b w (w'.setCell ⟨b, o, none⟩ v) :=
  ⟨h.os, h.tape, h.output, by simp [World.setCell]; exact h.size, fun k h1 hk => (Below.heap_setCell _ _ _ _ (by intro h; subst h; exact hk rfl)).trans (h.block k h1 hk)⟩
theorem RS.other {B r a b : Nat} {w w' : World} {s : ByteArray} {σ : CS} (h : RS B w r s a σ) (ho : OneB b w w') {cs : Array Value} {t : TypeId} {fr : Nat × Nat} (hb : w.heap[b]? = some (.cells cs t fr)) (h1 : t ≠ 57) (h2 : t ≠ 44) : RS B w' r s a σ := by
  obtain ⟨v, g1, g2⟩ := h.held
  refine ⟨h.base, h.sorted, h.many, h.told, v, g1.kept (ho.block r g1.lt ?_), mown_fq g2 ho ?_⟩
  · intro he
    simp at he
    subst he
    unfold RB at g1
    rw [hb] at g1
    simp at g1
    exact h1 g1.2.1
  · intro cs' fr' he
    rw [hb] at he
    simp at he
    exact h2 he.2.1
theorem RE.other {B r b : Nat} {w w' : World} {k : Int} (h : RE B w r k) (ho : OneB b w w') {cs : Array Value} {t : TypeId} {fr : Nat × Nat} (hb : w.heap[b]? = some (.cells cs t fr)) (h1 : t ≠ 57) : RE B w' r k := by
  obtain ⟨h0, hk, s, a, z, v, t, g1⟩ := h
  refine ⟨h0, hk, s, a, z, v, t, g1.kept (ho.block r g1.lt ?_)⟩
  intro he
  simp at he
  subst he
  unfold RB at g1
  rw [hb] at g1
  simp at g1
  exact h1 g1.2.1
theorem RB.ne_map {w : World} {r : Nat} {s : ByteArray} {a z t : Nat} {v : Value} {e : Int} (h : RB w r s a z v t e) : ∀ cs fr, w.heap[r]? ≠ some (.cells cs 44 fr) := by
  intro cs fr he
  unfold RB at h; rw [h] at he; simp at he
theorem RB.frame {B : Nat} {w w' : World} {r : Nat} {s : ByteArray} {a z t : Nat} {v : Value} {e : Int} (h : RB w r s a z v t e) (hB : B ≤ r) (ho : OneB r w w') : Fq B w w' :=
  ⟨ho.os, ho.tape, ho.output, ho.size, fun k hk hp => ho.block k hk (by
    intro he
    simp at he
    subst he
    rcases hp with hp | hp
    · omega
    · exact (hp _ _).1 h)⟩
theorem RB.set1 {w : World} {r : Nat} {s : ByteArray} {a z t b : Nat} {v : Value} {e : Int} (h : RB w r s a z v t e) : RB (w.setCell ⟨r, 1, none⟩ (.int .i64 b)) r s b z v t e := by
  unfold RB at *; simp only [World.setCell, Array.getElem?_modify]; simp [h]
theorem RB.set2 {w : World} {r : Nat} {s : ByteArray} {a z t b : Nat} {v : Value} {e : Int} (h : RB w r s a z v t e) : RB (w.setCell ⟨r, 2, none⟩ (.int .i64 b)) r s a b v t e := by
  unfold RB at *; simp only [World.setCell, Array.getElem?_modify]; simp [h]
theorem RB.set3 {w : World} {r : Nat} {s : ByteArray} {a z t : Nat} {v u : Value} {e : Int} (h : RB w r s a z v t e) : RB (w.setCell ⟨r, 3, none⟩ u) r s a z u t e := by
  unfold RB at *; simp only [World.setCell, Array.getElem?_modify]; simp [h]
theorem RB.set4 {w : World} {r : Nat} {s : ByteArray} {a z t b : Nat} {v : Value} {e : Int} (h : RB w r s a z v t e) : RB (w.setCell ⟨r, 4, none⟩ (.int .i64 b)) r s a z v b e := by
  unfold RB at *; simp only [World.setCell, Array.getElem?_modify]; simp [h]
theorem RB.set5 {w : World} {r : Nat} {s : ByteArray} {a z t : Nat} {v : Value} {e k : Int} (h : RB w r s a z v t e) : RB (w.setCell ⟨r, 5, none⟩ (.int .i64 k)) r s a z v t k := by
  unfold RB at *; simp only [World.setCell, Array.getElem?_modify]; simp [h]
theorem RB.six {w : World} {r : Nat} {s : ByteArray} {a z t : Nat} {v : Value} {e : Int} (h : RB w r s a z v t e) :
    w.cell? ⟨r, 0, none⟩ = some (.string s) ∧ w.cell? ⟨r, 1, none⟩ = some (.int .i64 a) ∧ w.cell? ⟨r, 2, none⟩ = some (.int .i64 z) ∧ w.cell? ⟨r, 3, none⟩ = some v ∧ w.cell? ⟨r, 4, none⟩ = some (.int .i64 t) ∧ w.cell? ⟨r, 5, none⟩ = some (.int .i64 e) ∧ ∀ o, w.frozen? ⟨r, o, none⟩ = false := by
  unfold RB at h; simp [World.cell?, World.frozen?, h]
/-- An error is noted. -/
theorem RS.fail {B r a : Nat} {w : World} {s : ByteArray} {σ : CS} (h : RS B w r s a σ) {k : Int} (hk : k ≠ 0) : RE B (w.setCell ⟨r, 5, none⟩ (.int .i64 k)) r k ∧ Fq B w (w.setCell ⟨r, 5, none⟩ (.int .i64 k)) := by
  obtain ⟨v, h1, _⟩ := h.held
  exact ⟨⟨h.base, hk, _, _, _, _, _, h1.set5⟩, h1.frame h.base (.set _ _ _ _)⟩
/-- No error is noted. -/
theorem RS.fine {B r a : Nat} {w : World} {s : ByteArray} {σ : CS} (h : RS B w r s a σ) : RS B (w.setCell ⟨r, 5, none⟩ (.int .i64 0)) r s a σ ∧ Fq B w (w.setCell ⟨r, 5, none⟩ (.int .i64 0)) := by
  obtain ⟨v, h1, h2⟩ := h.held
  exact ⟨⟨h.base, h.sorted, h.many, h.told, v, h1.set5, mown_fq h2 (OneB.set _ _ _ _) h1.ne_map⟩, h1.frame h.base (.set _ _ _ _)⟩
/-- The error's cell. -/
theorem RS.cell5 {B r a : Nat} {w : World} {s : ByteArray} {σ : CS} (h : RS B w r s a σ) : w.cell? ⟨r, 5, none⟩ = some (.int .i64 0) ∧ w.frozen? ⟨r, 5, none⟩ = false := by
  obtain ⟨v, h1, h2⟩ := h.held
  exact ⟨h1.six.2.2.2.2.2.1, h1.six.2.2.2.2.2.2 _⟩
theorem RE.cell5 {B r : Nat} {w : World} {k : Int} (h : RE B w r k) : w.cell? ⟨r, 5, none⟩ = some (.int .i64 k) ∧ w.frozen? ⟨r, 5, none⟩ = false := by
  obtain ⟨_, _, s, a, z, v, t, h1⟩ := h
  exact ⟨h1.six.2.2.2.2.2.1, h1.six.2.2.2.2.2.2 _⟩
end Go.Proofs.YtibffdaljmmdoaaGreatDoor
