/- How an object lies in memory: the relation between six cells and an object, its keys and kids. -/
import Derived.Test.YtpadlepdgnlgnaaGreatDoorLib
import Derived.Test.YtpadlepdgnlgnaaGreatDoorObj
set_option linter.all false
namespace Go.Proofs.YtpadlepdgnlgnaaGreatDoor
open Go.RowKit Fo

/-- A slice of strings that reads as a list, in blocks that S allows. -/
def KeysAt (S : Nat → Prop) (w : World) (v : Value) (ks : List L) : Prop :=
  (ks = [] ∧ ∃ p c, v = .slice p 0 c) ∨
  ∃ b o c, v = .slice (some ⟨b, o, none⟩) ks.length c ∧ S b ∧ ∀ i (h : i < ks.length), w.cell? ⟨b, o + i, none⟩ = some (.string ⟨(ks[i]).toArray⟩)

def objCells (k n g : Int) (s : L) (kv dv : Value) : List Value := [.int .i64 k, .int .i64 n, .int .i64 g, .string ⟨s.toArray⟩, kv, dv]

/-- Six cells read as an object of at most d levels; all its memory lies in blocks that S allows. -/
def ObjAt (S : Nat → Prop) : Nat → World → List Value → Ob → Prop
  | 0, _, _, _ => False
  | d + 1, w, cs, o => ∃ kv dv, cs = objCells o.kind o.n o.g o.s kv dv ∧ KeysAt S w kv o.keys ∧
      ((o.kids = [] ∧ ∃ p c, dv = .slice p 0 c) ∨
       ∃ b off c, dv = .slice (some ⟨b, off, none⟩) o.kids.length c ∧ S b ∧
         ∀ i (h : i < o.kids.length), ∃ ks : List Value, ks.length = 6 ∧ (∀ j (hj : j < ks.length), w.cell? ⟨b, off + 6 * i + j, none⟩ = some ks[j]) ∧ ObjAt S d w ks o.kids[i])

theorem KeysAt.kept {S : Nat → Prop} {w w' : World} {v : Value} {ks : List L} (h : KeysAt S w v ks) (hk : ∀ b, S b → w'.heap[b]? = w.heap[b]?) : KeysAt S w' v ks := by
  rcases h with h | ⟨b, o, c, h1, h2, h3⟩
  · exact .inl h
  · exact .inr ⟨b, o, c, h1, h2, fun i hi => (World.cell?_of_block (hk b h2)).trans (h3 i hi)⟩
theorem ObjAt.kept {S : Nat → Prop} {w w' : World} (hk : ∀ b, S b → w'.heap[b]? = w.heap[b]?) : ∀ (d : Nat) {cs : List Value} {o : Ob}, ObjAt S d w cs o → ObjAt S d w' cs o
  | 0, _, _, h => h
  | d + 1, cs, o, h => by
    obtain ⟨kv, dv, h1, h2, h3⟩ := h
    refine ⟨kv, dv, h1, h2.kept hk, ?_⟩
    rcases h3 with h3 | ⟨b, off, c, h4, h5, h6⟩
    · exact .inl h3
    · refine .inr ⟨b, off, c, h4, h5, fun i hi => ?_⟩
      obtain ⟨ks, g1, g2, g3⟩ := h6 i hi
      exact ⟨ks, g1, fun j hj => (World.cell?_of_block (hk b h5)).trans (g2 j hj), ObjAt.kept hk d g3⟩
theorem KeysAt.weaken {S S' : Nat → Prop} {w : World} {v : Value} {ks : List L} (h : KeysAt S w v ks) (hk : ∀ b, S b → b < w.heap.size → S' b) : KeysAt S' w v ks := by
  rcases h with h | ⟨b, o, c, h1, h2, h3⟩
  · exact .inl h
  · by_cases he : ks = []
    · exact .inl ⟨he, _, _, by rw [h1, he]; rfl⟩
    · have h0 := h3 0 (List.length_pos_iff.2 he)
      have hlt : b < w.heap.size := by
        apply Classical.byContradiction; intro hn
        simp [World.cell?, Array.getElem?_eq_none (Nat.not_lt.1 hn)] at h0
      exact .inr ⟨b, o, c, h1, hk b h2 hlt, h3⟩
theorem ObjAt.weaken {S S' : Nat → Prop} {w : World} (hk : ∀ b, S b → b < w.heap.size → S' b) : ∀ (d : Nat) {cs : List Value} {o : Ob}, ObjAt S d w cs o → ObjAt S' d w cs o
  | 0, _, _, h => h
  | d + 1, cs, o, h => by
    obtain ⟨kv, dv, h1, h2, h3⟩ := h
    refine ⟨kv, dv, h1, h2.weaken hk, ?_⟩
    rcases h3 with h3 | ⟨b, off, c, h4, h5, h6⟩
    · exact .inl h3
    · by_cases he : o.kids = []
      · exact .inl ⟨he, _, _, by rw [h4, he]; rfl⟩
      · obtain ⟨ks, g1, g2, _⟩ := h6 0 (List.length_pos_iff.2 he)
        have h0 := g2 0 (by omega)
        have hlt : b < w.heap.size := by
          apply Classical.byContradiction; intro hn
          simp [World.cell?, Array.getElem?_eq_none (Nat.not_lt.1 hn)] at h0
        refine .inr ⟨b, off, c, h4, hk b h5 hlt, fun i hi => ?_⟩
        obtain ⟨ks, g1, g2, g3⟩ := h6 i hi
        exact ⟨ks, g1, g2, ObjAt.weaken hk d g3⟩
theorem ObjAt.up {S : Nat → Prop} {w : World} : ∀ (d : Nat) {cs : List Value} {o : Ob}, ObjAt S d w cs o → ObjAt S (d + 1) w cs o
  | 0, _, _, h => h.elim
  | d + 1, cs, o, h => by
    obtain ⟨kv, dv, h1, h2, h3⟩ := h
    refine ⟨kv, dv, h1, h2, ?_⟩
    rcases h3 with h3 | ⟨b, off, c, h4, h5, h6⟩
    · exact .inl h3
    · refine .inr ⟨b, off, c, h4, h5, fun i hi => ?_⟩
      obtain ⟨ks, g1, g2, g3⟩ := h6 i hi
      exact ⟨ks, g1, g2, ObjAt.up d g3⟩

/-- Only block r, of what was there, may have turned. -/
structure Bes (r : Nat) (w w' : World) : Prop where
  os : w'.os = w.os
  tape : w'.tape = w.tape
  output : w'.output = w.output
  size : w.heap.size ≤ w'.heap.size
  block : ∀ k, k < w.heap.size → k ≠ r → w'.heap[k]? = w.heap[k]?
theorem Bes.refl (r : Nat) (w : World) : Bes r w w := ⟨rfl, rfl, rfl, Nat.le_refl _, fun _ _ _ => rfl⟩
theorem Bes.trans {r : Nat} {a b c : World} (h : Bes r a b) (k : Bes r b c) : Bes r a c :=
  ⟨k.os.trans h.os, k.tape.trans h.tape, k.output.trans h.output, Nat.le_trans h.size k.size, fun i hi hr => (k.block i (Nat.lt_of_lt_of_le hi h.size) hr).trans (h.block i hi hr)⟩
theorem Bes.of_below {r : Nat} {w w' : World} (h : Below w.heap.size w w') : Bes r w w' := ⟨h.os, h.tape, h.output, h.size, fun k hk _ => h.block k hk⟩
theorem Bes.below {r : Nat} {a w w' : World} (h : Bes r a w) (hb : Below w.heap.size w w') : Bes r a w' := h.trans (.of_below hb)
theorem Bes.belowB {r B : Nat} {a w w' : World} (h : Bes r a w) (hb : Below B w w') (hB : a.heap.size ≤ B) : Bes r a w' :=
  ⟨hb.os.trans h.os, hb.tape.trans h.tape, hb.output.trans h.output, Nat.le_trans h.size hb.size, fun i hi hr => (hb.block i (by omega)).trans (h.block i hi hr)⟩
theorem Bes.setCell {r : Nat} {a w : World} (h : Bes r a w) (o : Nat) (v : Value) : Bes r a (w.setCell ⟨r, o, none⟩ v) :=
  ⟨h.os, h.tape, h.output, by simp [World.setCell]; exact h.size, fun k hk hr => (Below.heap_setCell _ _ _ _ (by simpa using hr)).trans (h.block k hk hr)⟩
theorem Bes.setCell_new {r : Nat} {a w : World} (h : Bes r a w) {p : Addr} (hp : a.heap.size ≤ p.block) (v : Value) : Bes r a (w.setCell p v) :=
  ⟨h.os, h.tape, h.output, by simp [World.setCell]; exact h.size, fun k hk hr => (Below.heap_setCell _ _ _ _ (by omega)).trans (h.block k hk hr)⟩
theorem Bes.alloc {r : Nat} {a w : World} (h : Bes r a w) (o : Go.Obj) : Bes r a (w.alloc o) :=
  ⟨h.os, h.tape, h.output, by simp; have := h.size; omega, fun k hk hr => (Below.heap_alloc _ _ _ (Nat.lt_of_lt_of_le hk h.size)).trans (h.block k hk hr)⟩
theorem Bes.drew {r : Nat} {a w : World} (h : Bes r a w) : Bes r a w.drew := ⟨h.os, h.tape, h.output, h.size, h.block⟩
theorem Bes.drewN {r : Nat} {a w : World} (h : Bes r a w) (n : Nat) : Bes r a (w.drewN n) := ⟨h.os, h.tape, h.output, h.size, h.block⟩
/-- The reader's block: the text and the place. -/
def RdAt (w : World) (r : Nat) (s : ByteArray) (a : Nat) : Prop := w.heap[r]? = some (.cells #[.string s, .int .i64 a] 48 (0, 0))
theorem RdAt.lt {w : World} {r : Nat} {s : ByteArray} {a : Nat} (h : RdAt w r s a) : r < w.heap.size := lt_of_block h
theorem RdAt.cell0 {w : World} {r : Nat} {s : ByteArray} {a : Nat} (h : RdAt w r s a) : w.cell? ⟨r, 0, none⟩ = some (.string s) := by
  unfold RdAt at h; simp [World.cell?, h]
theorem RdAt.cell1 {w : World} {r : Nat} {s : ByteArray} {a : Nat} (h : RdAt w r s a) : w.cell? ⟨r, 1, none⟩ = some (.int .i64 a) := by
  unfold RdAt at h; simp [World.cell?, h]
theorem RdAt.frozen {w : World} {r : Nat} {s : ByteArray} {a : Nat} (h : RdAt w r s a) (o : Nat) : w.frozen? ⟨r, o, none⟩ = false := by
  unfold RdAt at h; simp [World.frozen?, h]
theorem RdAt.below {w w' : World} {r : Nat} {s : ByteArray} {a : Nat} (h : RdAt w r s a) (hb : Below w.heap.size w w') : RdAt w' r s a := by
  unfold RdAt at *; rw [hb.block r (lt_of_block h)]; exact h
theorem RdAt.belowB {B : Nat} {w w' : World} {r : Nat} {s : ByteArray} {a : Nat} (h : RdAt w r s a) (hb : Below B w w') (hB : r < B) : RdAt w' r s a := by
  unfold RdAt at *; rw [hb.block r hB]; exact h
theorem RdAt.set {w : World} {r : Nat} {s : ByteArray} {a b : Nat} (h : RdAt w r s a) : RdAt (w.setCell ⟨r, 1, none⟩ (.int .i64 b)) r s b := by
  unfold RdAt at *
  have hlt := lt_of_block h
  have h' : w.heap[r] = .cells #[.string s, .int .i64 a] 48 (0, 0) := by simpa [Array.getElem?_eq_getElem hlt] using h
  simp only [World.setCell, Array.getElem?_modify]
  simp [h]
end Go.Proofs.YtpadlepdgnlgnaaGreatDoor
