/- Sorted keys and their values: laws for the last part of the dictionary's reader. -/
import Derived.Test.YtpadlepdgnlgnaaGreatDoorDictB
set_option linter.all false
namespace Go.Proofs.YtpadlepdgnlgnaaGreatDoor
open Go.RowKit Fo Go.Maps

theorem isort_length (l : List L) : (isort l).length = l.length := (isort_perm l).length_eq
theorem sort_in (B : Nat) (v : Value) (ss : List L) (w : World) (h : ownS w B v ss) (hB : B ≤ w.heap.size) (hl : ss.length ≤ 100000) :
    Calls Tryz.prog 102 #[v] w fun e w' => e = .returned (.tuple #[]) ∧ ownS w' B v (isort ss) ∧ Below B w w' := by
  rcases h.2 with ⟨h1, h2⟩ | ⟨g, cap, cur, rfl, hbase, hb, h1, h2, h3, h4⟩
  · have : ss = [] := List.eq_nil_of_length_eq_zero h2
    subst this; subst h1
    refine (Tryz.slices_Sort_string_none none 0 w).mono ?_
    rintro e w' ⟨rfl, rfl⟩
    exact ⟨rfl, h, Below.refl _ _⟩
  · refine (Tryz.slices_Sort_string g 0 cap ss w (holds_of_block hb (by simpa using h4)) (Array.getElem?_eq_some_iff.1 hb).1 (by omega)).mono ?_
    rintro e w' ⟨rfl, n, os, rfl⟩
    refine ⟨rfl, ?_, (Below.refl B w).grown (grownBy_sorted _) hB (by intro k hk; cases hk; exact hbase)⟩
    have hm : ss.mergeSort (fun x y => decide (x ≤ y)) = isort ss := isort_merge ss ss (List.Perm.refl _)
    rw [hm]
    have := ownsRow_sorted (n := n) (os := os) (isort_length ss) hbase hb h1 h2 h3
    unfold ownS
    rw [isort_length]; exact this

/-- One object is appended to objects of the call's own. -/
theorem appendO {ops : Array Oper} {rest : List Oper} {o : Oper} {a : Act} {Q : Exit → Act → World → Prop} {w : World} (hgd : o.guard = none) (s x : Operand)
    (ho : o.op = .call { callee := .builtin .append, args := #[s, x], argTypes := #[24, 24] })
    (B n : Nat) (v : Value) (xs : List Value) (c : Obv) (hown : w.ownsRow B 26 6 v n xs) (hs : a.eval s = v)
    (gx : Nat) (hx : a.eval x = .slice (some ⟨gx, 0, none⟩) 1 1) (hgx : w.heap.size = gx) (hlen : n ≤ 100000) (hB : B ≤ w.heap.size)
    (h : ∀ g cap w', w'.ownsRow B 26 6 (.slice (some ⟨g, 0, none⟩) (n + 1) cap) (n + 1) (xs ++ objCells c.k c.n c.g c.s (.slice c.p1 c.n1 c.c1) (.slice c.p2 c.n2 c.c2)) →
      (w.alloc (.cells #[.int .i64 c.k, .int .i64 c.n, .int .i64 c.g, .string ⟨c.s.toArray⟩, .slice c.p1 c.n1 c.c1, .slice c.p2 c.n2 c.c2] 26)).grownBy w' v.ownBlock → (v.ownBlock = some g ∨ g = w.heap.size + 1) → g < w'.heap.size →
      wpList Tryz.prog ops Q rest (a.put o.dst (.slice (some ⟨g, 0, none⟩) (n + 1) cap)) w') :
    wpList Tryz.prog ops Q (o :: rest) a (w.alloc (.cells #[.int .i64 c.k, .int .i64 c.n, .int .i64 c.g, .string ⟨c.s.toArray⟩, .slice c.p1 c.n1 c.c1, .slice c.p2 c.n2 c.c2] 26)) := by
  subst hgx
  obtain ⟨i0, hi, hz0, hz1, hz2⟩ := info_parts Tryz.infoOb
  refine wpList_append_lies _ hgd s x 24 ho B 26 i0 _ 6 88 Tryz.underlying24 hi hz0 hz1 hz2 rfl (by omega) v n xs hs (hown.alloc _) ⟨w.heap.size, 0, none⟩ 1 1
    (objCells c.k c.n c.g c.s (.slice c.p1 c.n1 c.c1) (.slice c.p2 c.n2 c.c2)) hx rfl (World.news_of_block (cs := #[.int .i64 c.k, .int .i64 c.n, .int .i64 c.g, .string ⟨c.s.toArray⟩, .slice c.p1 c.n1 c.c1, .slice c.p2 c.n2 c.c2]) (t := 26) (fr := (0, 0)) (heap_alloc_new w _))
    ?_ (by omega) (by unfold maxLen; omega) (by omega) (by simp; omega) (w.heap.size + 1) (by simp) h
  intro u hu; simp [objCells] at hu; rcases hu with rfl | rfl | rfl | rfl | rfl | rfl <;> rfl

def cellsO (c : Obv) : List Value := objCells c.k c.n c.g c.s (.slice c.p1 c.n1 c.c1) (.slice c.p2 c.n2 c.c2)
def zeroO : Obv := ⟨0, 0, 0, [], none, 0, 0, none, 0, 0⟩
/-- The value at a key. -/
def valAt (vals : List (L × Obv)) (x : L) : Obv := ((vals.find? fun p => p.1 == x).map (·.2)).getD zeroO
theorem valAt_mem {vals : List (L × Obv)} (h : (vals.map (·.1)).Nodup) {x : L} {c : Obv} (hm : (x, c) ∈ vals) : valAt vals x = c := by
  induction vals with
  | nil => cases hm
  | cons y ps ih =>
    rw [List.map_cons, List.nodup_cons] at h
    rcases List.mem_cons.1 hm with rfl | hm'
    · simp [valAt]
    · have : y.1 ≠ x := by
        intro he; apply h.1; rw [he]; exact List.mem_map.2 ⟨(x, c), hm', rfl⟩
      have := ih h.2 hm'
      unfold valAt at *
      rw [List.find?_cons_of_neg (by simpa using ‹y.1 ≠ x›)]
      exact this
/-- The third loop: the kids are gathered in the keys' order. -/
structure KInv (wo : World) (bm n : Nat) (vals : List (L × Obv)) (D : DataW Value) (ks : List L) (v : Value) (wr : World) (k : Nat) (kv : Value) : Prop where
  hbm : bm < wo.heap.size
  hk : k ≤ ks.length
  hown : wr.ownsMap Tryz.prog 9 obR bm n D
  hob : wr.heap[wo.heap.size]? = some (.cells #[.int .i64 7, .int .i64 0, .int .i64 0, .string ⟨#[]⟩, v, kv] 26 (0, 0))
  hkeys : ownS wr (wo.heap.size + 2) v ks
  hrow : wr.ownsRow (wo.heap.size + 2) 26 6 kv k (((ks.take k).map fun x => cellsO (valAt vals x)).flatten)
  hne : ∀ b, v.ownBlock = some b → kv.ownBlock ≠ some b
  hb : Below wo.heap.size wo wr
theorem KInv.step {wo : World} {bm n : Nat} {vals : List (L × Obv)} {D : DataW Value} {ks : List L} {v : Value} {wr : World} {k : Nat} {kv : Value} (h : KInv wo bm n vals D ks v wr k kv) (hk : k < ks.length) {wz : World} {g cap : Nat} {o : Go.Obj} {c : Obv}
    (hc : valAt vals (ks.getD k []) = c)
    (hown : wz.ownsRow (wo.heap.size + 2) 26 6 (.slice (some ⟨g, 0, none⟩) (k + 1) cap) (k + 1) (((ks.take k).map fun x => cellsO (valAt vals x)).flatten ++ cellsO c))
    (hg : (wr.alloc o).grownBy wz kv.ownBlock) (hat : kv.ownBlock = some g ∨ g = wr.heap.size + 1) :
    KInv wo bm n vals D ks v (wz.setCell ⟨wo.heap.size, 5, none⟩ (.slice (some ⟨g, 0, none⟩) (k + 1) cap)) (k + 1) (.slice (some ⟨g, 0, none⟩) (k + 1) cap) := by
  have hlo := own_base h.hrow
  have hlt : wo.heap.size < wr.heap.size := lt_of_block h.hob
  have hgs := hg.size
  simp at hgs
  have keep : ∀ b, b < wr.heap.size → kv.ownBlock ≠ some b → wz.heap[b]? = wr.heap[b]? := fun b h1 h2 => (hg.block b (by simp; omega) (Ne.symm h2)).trans (Below.heap_alloc _ _ _ h1)
  have nlow : ∀ b, b < wo.heap.size + 2 → kv.ownBlock ≠ some b := fun b h1 h2 => by have := hlo b h2; omega
  have hset : ∀ b, b ≠ wo.heap.size → (wz.setCell ⟨wo.heap.size, 5, none⟩ (.slice (some ⟨g, 0, none⟩) (k + 1) cap)).heap[b]? = wz.heap[b]? := fun b hb => Below.heap_setCell _ _ _ _ hb
  have hgb : wz.grownBy (wz.setCell ⟨wo.heap.size, 5, none⟩ (.slice (some ⟨g, 0, none⟩) (k + 1) cap)) (some wo.heap.size) := ⟨rfl, rfl, rfl, by simp [World.setCell], fun b h1 h2 => hset b (by intro h; exact h2 (by rw [h]))⟩
  have hbm := h.hbm
  have hloK := own_base h.hkeys
  refine ⟨hbm, hk, ?_, ?_, ?_, ?_, ?_, ?_⟩
  · obtain ⟨es, clock, h1, F, h2, h3⟩ := h.hown
    exact ⟨es, clock, by rw [hset _ (by omega), keep _ (by omega) (nlow _ (by omega))]; exact h1, F, h2, h3⟩
  · refine set_fifth (v5 := kv) ?_
    rw [keep _ (by omega) (nlow _ (by omega))]; exact h.hob
  · have h1 : ownS wz (wo.heap.size + 2) v ks := by
      refine World.ownsRow.kept (World.ownsRow.alloc h.hkeys o) hg ?_
      cases hv : v.ownBlock with
      | none => exact .inl rfl
      | some b => exact .inr (fun e => h.hne b hv e.symm)
    exact World.ownsRow.kept h1 hgb (.inr (by intro e; have := hloK _ e; omega))
  · have hgl := own_base hown
    have : (ks.take (k + 1)).map (fun x => cellsO (valAt vals x)) = (ks.take k).map (fun x => cellsO (valAt vals x)) ++ [cellsO c] := by
      rw [List.take_succ_eq_append_getElem hk, List.map_append, ← hc]; simp [List.getD, hk]
    rw [this, List.flatten_append]
    have h2 := World.ownsRow.kept hown hgb (.inr (by intro e; have := hgl _ e; omega))
    simpa using h2
  · intro b hv
    rcases hat with h1 | h1
    · intro e
      simp [Value.ownBlock] at e
      exact h.hne b hv (by rw [h1, e])
    · intro e
      simp [Value.ownBlock] at e
      have := (World.ownsRow.lt h.hkeys b hv).2
      omega
  · have hs := h.hb.size
    exact ⟨hg.os.trans h.hb.os, hg.tape.trans h.hb.tape, hg.output.trans h.hb.output, by simp [World.setCell]; omega, fun b hb => by
      rw [hset b (by omega), keep b (by omega) (nlow b (by omega))]; exact h.hb.block b hb⟩
end Go.Proofs.YtpadlepdgnlgnaaGreatDoor
