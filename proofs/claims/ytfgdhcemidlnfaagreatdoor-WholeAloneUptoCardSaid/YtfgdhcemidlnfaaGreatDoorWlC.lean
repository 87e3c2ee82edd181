/- A slice of items made anew and filled by copy. -/
import Derived.Test.YtfgdhcemidlnfaaGreatDoorGDo
import Derived.Test.YtfgdhcemidlnfaaGreatDoorGVaC
import Derived.Shelf.Spec.SlicesInsert
set_option linter.all false
namespace Go.Proofs.YtfgdhcemidlnfaaGreatDoor
open Go.RowKit Fo

theorem below_setRow' {B g : Nat} {w0 w : World} (hb : Below B w0 w) (hBg : B ≤ g) (cs : Array Value) : Below B w0 (w.setRow g cs) :=
  hb.trans ⟨rfl, rfl, rfl, by simp [World.setRow], fun k hk => setRow_other w g k cs (by omega)⟩
theorem item8 : (Tryz.prog.info? 50).map (·.size) = some 8 := by kernel_rfl
theorem items_cell {S : Nat → Prop} {d : Nat} {w : World} {b off n c : Nat} {l : List It} (h : ItemsAt S d w (.slice (some ⟨b, off, none⟩) n c) l) (hn : l.length = n) (j : Nat) (hj : j < n * 8) :
    ∃ v, w.cell? ⟨b, off + j, none⟩ = some v ∧ v.oneCell' = true := by
  obtain ⟨i, p1, n1, c1, p2, n2, c2, _, _, _, a0, a1, a2, a3, a4, a5, a6, a7⟩ := item_kid h hn (j / 8) (by omega)
  have hr : j % 8 = 0 ∨ j % 8 = 1 ∨ j % 8 = 2 ∨ j % 8 = 3 ∨ j % 8 = 4 ∨ j % 8 = 5 ∨ j % 8 = 6 ∨ j % 8 = 7 := by omega
  rcases hr with hr | hr | hr | hr | hr | hr | hr | hr
  · exact ⟨_, by rw [show off + j = off + j / 8 * 8 by omega]; exact a0, rfl⟩
  · exact ⟨_, by rw [show off + j = off + j / 8 * 8 + 1 by omega]; exact a1, rfl⟩
  · exact ⟨_, by rw [show off + j = off + j / 8 * 8 + 2 by omega]; exact a2, rfl⟩
  · exact ⟨_, by rw [show off + j = off + j / 8 * 8 + 3 by omega]; exact a3, rfl⟩
  · exact ⟨_, by rw [show off + j = off + j / 8 * 8 + 4 by omega]; exact a4, rfl⟩
  · exact ⟨_, by rw [show off + j = off + j / 8 * 8 + 5 by omega]; exact a5, rfl⟩
  · exact ⟨_, by rw [show off + j = off + j / 8 * 8 + 6 by omega]; exact a6, rfl⟩
  · exact ⟨_, by rw [show off + j = off + j / 8 * 8 + 7 by omega]; exact a7, rfl⟩
theorem items_moved {S : Nat → Prop} {d : Nat} {w w' : World} {b off n c g c' : Nat} {l : List It} (h : ItemsAt S d w (.slice (some ⟨b, off, none⟩) n c) l) (hn : l.length = n) (hS : ∀ b, S b → b < w.heap.size)
    (hk : ∀ k, k < w.heap.size → w'.heap[k]? = w.heap[k]?) (hz : w.heap.size ≤ w'.heap.size) (hg : g < w'.heap.size) (hc : ∀ j, j < n * 8 → w'.cell? ⟨g, j, none⟩ = w.cell? ⟨b, off + j, none⟩) :
    ItemsAt (fun b => b < w'.heap.size) d w' (.slice (some ⟨g, 0, none⟩) n c') l := by
  refine .inr ⟨g, 0, c', by rw [hn], hg, fun j hj => ?_⟩
  rcases h with ⟨rfl, _⟩ | ⟨b', off', c'', h1, h2, h3⟩
  · simp at hj
  · cases h1
    obtain ⟨v0, v1, v2, v3, v4, v5, a0, a1, a2, a3, a4, a5, a6, a7, a8⟩ := h3 j hj
    rw [hn] at hj
    have e := fun r (hr : r < 8) => (hc (j * 8 + r) (by omega))
    refine ⟨v0, v1, v2, v3, v4, v5, ?_, ?_, ?_, ?_, ?_, ?_, ?_, ?_, ?_⟩
    · rw [Nat.zero_add]; exact (e 0 (by decide)).trans a0
    · rw [Nat.zero_add]; exact (e 1 (by decide)).trans a1
    · rw [Nat.zero_add]; exact (e 2 (by decide)).trans a2
    · rw [Nat.zero_add]; exact (e 3 (by decide)).trans a3
    · rw [Nat.zero_add]; exact (e 4 (by decide)).trans a4
    · rw [Nat.zero_add]; exact (e 5 (by decide)).trans a5
    · rw [Nat.zero_add]; exact (e 6 (by decide)).trans a6
    · rw [Nat.zero_add]; exact (e 7 (by decide)).trans a7
    · exact (a8.kept (fun b h => hk b (hS b h)) d).weaken (fun b h _ => Nat.lt_of_lt_of_le (hS b h) hz) d
theorem copy_items (S : Nat → Prop) (d : Nat) (w : World) (ip : Option Addr) (n ic m : Nat) (ty : TypeId) (l : List It) (Z : Array Value) (hI : ItemsAt S d w (.slice ip n ic) l) (hn : l.length = n) (hS : ∀ b, S b → b < w.heap.size) :
    ∃ w2, (Builtin.copy_ #[22, 22] ty #[.slice (some ⟨w.heap.size, 0, none⟩) n (n + m), .slice ip n ic]).run Tryz.prog (w.alloc (.cells (madeCells Z ((n + m) * 8)) 50)) = .ok (goInt n) w2 ∧
      ItemsAt (fun b => b < w2.heap.size) d w2 (.slice (some ⟨w.heap.size, 0, none⟩) n (n + m)) l ∧ Below w.heap.size w w2 := by
  obtain ⟨W, hW⟩ : ∃ W, w.alloc (.cells (madeCells Z ((n + m) * 8)) 50) = W := ⟨_, rfl⟩
  have hWg : W.heap[w.heap.size]? = some (.cells (madeCells Z ((n + m) * 8)) 50 (0, 0)) := by rw [← hW]; exact heap_new_at _ _ _ rfl
  have hbW : Below w.heap.size w W := by rw [← hW]; exact (by repeat' (first | (with_reducible first | exact Below.refl _ _ | refine Below.drew ?_ | refine belowDrewN ?_ _ | refine belowIter ?_ ?_ _ _ | refine Below.setCell ?_ ?_ _ | refine Below.alloc ?_ ?_ _ | refine bT hb4 ?_ ?_ | refine bT hb3 ?_ ?_ | refine bT hb2 ?_ ?_ | refine bT hb1 ?_ ?_ | refine bT hbr ?_ ?_ | refine bT hb ?_ ?_) | (simp; done) | (simp; omega) | omega))
  rw [hW]
  clear hW
  have hu := Tryz.underlying22
  by_cases h0 : n = 0
  · subst h0
    have hl0 := List.eq_nil_of_length_eq_zero hn
    subst hl0
    refine ⟨W, ?_, .inl ⟨rfl, _, _, rfl⟩, hbW⟩
    cases hq : Tryz.prog.info? 50 with
    | none => have := item8; simp [hq] at this
    | some i =>
      have hl : ∀ (x : Addr), (loadCells x 0).run Tryz.prog W = .ok #[] W := fun x => by simpa using run_loadCells_list (P := Tryz.prog) W x [] (by simp)
      cases ip <;> simp [Builtin.copy_, run_underlying hu, Builtin.lenOf, Builtin.firstCells, sizeOf, typeInfo, hq, storeCells, hl]
  · obtain ⟨b, off, rfl⟩ := hI.addr hn 0 (by omega)
    have hsb : S b := by
      obtain ⟨_, _, _, _, _, _, _, _, hsb, _⟩ := item_kid hI hn 0 (by omega)
      exact hsb
    have hIW : ItemsAt S d W (.slice (some ⟨b, off, none⟩) n ic) l := hI.kept (fun b h => hbW.block b (hS b h))
    obtain ⟨ys, hys⟩ : ∃ ys : List Value, ys = (List.range (n * 8)).map fun j => (W.cell? ⟨b, off + j, none⟩).getD (.int .i64 0) := ⟨_, rfl⟩
    have hyl : ys.length = n * 8 := by rw [hys]; simp
    have hyc : ∀ j v, ys[j]? = some v → W.cell? ⟨b, off + j, none⟩ = some v ∧ v.oneCell' = true := by
      intro j v hv
      have hj : j < n * 8 := by rw [← hyl]; exact (List.getElem?_eq_some_iff.1 hv).1
      obtain ⟨u, hu1, hu2⟩ := items_cell hIW hn j hj
      rw [hys] at hv
      simp [hj, hu1] at hv
      subst hv
      exact ⟨hu1, hu2⟩
    have hms : (madeCells Z ((n + m) * 8)).size = (n + m) * 8 := size_madeCells _ _
    have := run_copy_rowk (P := Tryz.prog) 8 W 22 22 ty 50 w.heap.size 0 n (n + m) ⟨b, off, none⟩ n ic (madeCells Z ((n + m) * 8)) 50 ys hu item8 hWg (by rw [hyl]; simp)
      (fun j v hv => by rw [Addr.add_lit]; exact (hyc j v hv).1) (by rw [hyl, hms]; omega) (fun v hv => by obtain ⟨j, hj, rfl⟩ := List.mem_iff_getElem.1 hv; exact (hyc j _ (List.getElem?_eq_getElem hj)).2)
    rw [show n.min n = n from Nat.min_self n] at this
    refine ⟨_, this, ?_, below_setRow' hbW (Nat.le_refl _) _⟩
    have hset := setRow_heap W w.heap.size (madeCells Z ((n + m) * 8)) (((madeCells Z ((n + m) * 8)).toList.take 0 ++ ys ++ (madeCells Z ((n + m) * 8)).toList.drop (0 + ys.length)).toArray) 50 (0, 0) hWg
    refine items_moved hI hn hS (fun k hk => (below_setRow' hbW (Nat.le_refl _) _).block k hk) (below_setRow' hbW (Nat.le_refl _) _).size (lt_of_block hset) (fun j hj => ?_)
    have h1 : ys[j]? = some (ys[j]'(by omega)) := List.getElem?_eq_getElem (by omega)
    have h2 := (hyc j _ h1).1
    rw [← World.cell?_of_block (a := ⟨b, off + j, none⟩) (hbW.block b (hS b hsb)), h2]
    obtain ⟨V, hV⟩ : ∃ V, W.setRow w.heap.size (List.take 0 (madeCells Z ((n + m) * 8)).toList ++ ys ++ List.drop (0 + ys.length) (madeCells Z ((n + m) * 8)).toList).toArray = V := ⟨_, rfl⟩
    rw [hV] at hset ⊢
    simp only [World.cell?, hset]
    simp [List.getElem?_append_left (show j < ys.length by omega), h1]
end Go.Proofs.YtfgdhcemidlnfaaGreatDoor
