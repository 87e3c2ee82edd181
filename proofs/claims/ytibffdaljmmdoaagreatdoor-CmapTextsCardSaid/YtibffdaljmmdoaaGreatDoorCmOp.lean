/- An argument of the type []api.Map, opened. -/
import Derived.Test.YtibffdaljmmdoaaGreatDoorCmL5
import Derived.Test.YtibffdaljmmdoaaGreatDoorCmFr
import Derived.Deep.Slices
import Derived.ChangeArms
set_option linter.all false
namespace Go.Proofs.YtibffdaljmmdoaaGreatDoor
open Go.ChangeShapes Go.WideShapes Go.ChangeAt Go.RowKit

theorem list_each {α : Type} {p : Nat → α → Prop} (n : Nat) (h : ∀ i, i < n → ∃ o, p i o) : ∃ l : List α, l.length = n ∧ ∀ i (hi : i < l.length), p i l[i] := by
  induction n with
  | zero => exact ⟨[], rfl, fun i hi => absurd hi (by simp)⟩
  | succ n ih =>
    obtain ⟨l, hl, hp⟩ := ih (fun i hi => h i (by omega))
    obtain ⟨o, ho⟩ := h n (by omega)
    refine ⟨l ++ [o], by simp [hl], fun i hi => ?_⟩
    by_cases h1 : i < l.length
    · rw [List.getElem_append_left h1]; exact hp i h1
    · have h2 : i = l.length := by simp at hi; omega
      subst h2
      simp only [List.getElem_concat_length]
      rw [hl]; exact ho
theorem add_at (b o i : Nat) : (⟨b, o, none⟩ : Addr).add i = ⟨b, o + i, none⟩ := by
  cases i <;> simp [Addr.add]
theorem cell_in {w : World} {b o : Nat} {v : Value} (h : w.cell? ⟨b, o, none⟩ = some v) : b < w.heap.size := by
  apply Classical.byContradiction; intro hn
  simp [World.cell?, Array.getElem?_eq_none (Nat.not_lt.1 hn)] at h
set_option maxRecDepth 100000 in
theorem map_cells {H : Type} {enc : TypeId × Value → H} {W : World} {sp : Nat → Bool} {hd : Bool} {fuel : Nat} {cs : List Value} {x : DataW H × List MemPlace} (h : DataW.trod enc Tryz.prog W 0 sp hd fuel 44 cs = some x) :
    ∃ (d : Int) (s : Fo.L), cs = [.int .i64 d, .string ⟨s.toArray⟩] := by
  obtain ⟨xs, n, rfl, rfl, hl, hlen, hf⟩ := DataW.trod_struct Tryz.underlying44 h
  have z1 : Tryz.prog.cellsOf 44 = 2 := by kernel_rfl
  have z2 : Tryz.prog.cellsOf 3 = 1 := by kernel_rfl
  have z4 : Tryz.prog.cellsOf 9 = 1 := by kernel_rfl
  rw [z1] at hl
  match cs, hl with
  | [c0, c1], _ =>
    match xs, hlen with
    | [x0, x1], _ =>
      have f0 := hf 0 _ rfl
      have f1 := hf 1 _ rfl
      simp only [z2, z4, List.drop_zero, List.drop_succ_cons, List.take_succ_cons, List.take_zero, List.getElem?_cons_zero, List.getElem?_cons_succ] at f0 f1
      obtain ⟨k, e0, _⟩ := DataW.trod_int Tryz.underlying3 f0
      obtain ⟨s, e1, _⟩ := DataW.trod_string Tryz.underlying9 f1
      cases e0
      cases e1
      exact ⟨k, s.data.toList, by simp⟩
set_option maxRecDepth 100000 in
theorem open_map {H : Type} {enc : TypeId × Value → H} {W : World} {sp : Nat → Bool} {hd : Bool} {fuel : Nat} {cs : List Value} {x : DataW H × List MemPlace} (h : DataW.trod enc Tryz.prog W 0 sp hd fuel 23 cs = some x) :
    ∃ v M, cs = [v] ∧ MArg W v M ∧ MCap v ∧ M.length ≤ 9223372036854775807 := by
  have z1 : Tryz.prog.cellsOf 44 = 2 := by kernel_rfl
  rcases DataW.trod_slice Tryz.underlying23 h with ⟨hc, _⟩ | ⟨a, len, cap, elems, rest, m, rfl, hc, _, _, hcap, hmax, hel, hx, _⟩
  · subst hc
    exact ⟨_, [], rfl, ⟨none, 0, rfl, fun k hk => absurd hk (Nat.not_lt_zero _)⟩, fun p n c e => by cases e; exact Nat.le_refl _, Nat.zero_le _⟩
  · subst hc
    rw [z1] at hx
    have hm2 : cap ≤ 9223372036854775807 := hmax
    obtain ⟨M, hM, hp⟩ := list_each (p := fun i (y : Int × Fo.L) => W.cell? ((a.add (i * 2)).add 0) = some (.int .i64 y.1) ∧ W.cell? ((a.add (i * 2)).add 1) = some (.string ⟨y.2.toArray⟩)) len (fun i hi => by
      have h1 := hx i hi
      rw [List.getElem?_eq_getElem (by omega)] at h1
      obtain ⟨cs', h2, h3⟩ := Option.bind_eq_some_iff.1 h1
      obtain ⟨_, hlen', hcell⟩ := World.cells?_some h2
      obtain ⟨d, s, rfl⟩ := map_cells h3
      exact ⟨(d, s), hcell 0 (by simp), hcell 1 (by simp)⟩)
    refine ⟨_, M, rfl, ?_, fun p n c e => by cases e; exact hcap, by omega⟩
    by_cases h0 : len = 0
    · subst h0
      exact ⟨some a, cap, by rw [hM], fun k hk => by omega⟩
    · obtain ⟨b, o, spot⟩ := a
      have h00 := (hp 0 (by omega)).1
      have hspot : spot = none := by simpa [Addr.add] using World.cell?_spot h00
      subst hspot
      refine ⟨some ⟨b, o, none⟩, cap, by rw [hM], fun k hk => ?_⟩
      obtain ⟨g1, g2⟩ := hp k hk
      rw [add_at, add_at] at g1 g2
      exact ⟨b, o, rfl, cell_in g1, g1, g2⟩
end Go.Proofs.YtibffdaljmmdoaaGreatDoor
