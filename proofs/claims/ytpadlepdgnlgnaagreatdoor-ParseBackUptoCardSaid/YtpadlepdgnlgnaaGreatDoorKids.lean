/- Rows of objects that a call gathers in a slice of its own. -/
import Derived.Test.YtpadlepdgnlgnaaGreatDoorObject2
import Derived.Deep.AppendLies
set_option linter.all false
namespace Go.Proofs.YtpadlepdgnlgnaaGreatDoor
open Go.RowKit Fo

theorem Tryz.infoOb : (Tryz.prog.info? 26).map (fun i => (i.zero, i.size, i.bytes)) = some (some (.agg #[.int .i64 0, .int .i64 0, .int .i64 0, .string ⟨#[]⟩, .slice none 0 0, .slice none 0 0]), 6, 88) := by kernel_rfl

/-- What is kept of an object where its blocks are kept. -/
theorem ObjAt.grow {S S' : Nat → Prop} {w w' : World} {d : Nat} {cs : List Value} {o : Ob} (h : ObjAt S d w cs o)
    (hk : ∀ b, S b → b < w.heap.size → S' b ∧ w'.heap[b]? = w.heap[b]?) : ObjAt S' d w' cs o :=
  (ObjAt.kept (S := fun b => S' b ∧ w'.heap[b]? = w.heap[b]?) (fun b hb => hb.2) d (h.weaken (fun b h1 h2 => hk b h1 h2) d)).weaken (fun b h _ => h.1) d

def KidsAt (S : Nat → Prop) (d : Nat) (w : World) (css : List (List Value)) (acc : List Ob) : Prop :=
  css.length = acc.length ∧ ∀ (i : Nat) (cs : List Value) (o : Ob), css[i]? = some cs → acc[i]? = some o → cs.length = 6 ∧ ObjAt S d w cs o
theorem KidsAt.nil {S : Nat → Prop} {d : Nat} {w : World} : KidsAt S d w [] [] := ⟨rfl, fun i cs o h => by simp at h⟩
theorem KidsAt.grow {S S' : Nat → Prop} {w w' : World} {d : Nat} {css : List (List Value)} {acc : List Ob} (h : KidsAt S d w css acc)
    (hk : ∀ b, S b → b < w.heap.size → S' b ∧ w'.heap[b]? = w.heap[b]?) : KidsAt S' d w' css acc :=
  ⟨h.1, fun i cs o h1 h2 => ⟨(h.2 i cs o h1 h2).1, (h.2 i cs o h1 h2).2.grow hk⟩⟩
theorem KidsAt.push {S : Nat → Prop} {w : World} {d : Nat} {css : List (List Value)} {acc : List Ob} {cs : List Value} {o : Ob} (h : KidsAt S d w css acc)
    (hl : cs.length = 6) (ho : ObjAt S d w cs o) : KidsAt S d w (css ++ [cs]) (acc ++ [o]) := by
  refine ⟨by simp [h.1], fun i c x h1 h2 => ?_⟩
  by_cases hi : i < css.length
  · rw [List.getElem?_append_left hi] at h1
    rw [List.getElem?_append_left (by rw [← h.1]; exact hi)] at h2
    exact h.2 i c x h1 h2
  · rw [List.getElem?_append_right (by omega)] at h1
    rw [List.getElem?_append_right (by rw [← h.1]; omega)] at h2
    have h0 : i - css.length = 0 := by
      have := (List.getElem?_eq_some_iff.1 h1).1; simp at this; omega
    rw [h0] at h1
    rw [← h.1, h0] at h2
    simp at h1 h2
    subst h1; subst h2
    exact ⟨hl, ho⟩
theorem ObjAt.len {S : Nat → Prop} {d : Nat} {w : World} {cs : List Value} {o : Ob} (h : ObjAt S d w cs o) : cs.length = 6 := by
  obtain ⟨p1, n1, c1, p2, n2, c2, rfl⟩ := h.shape; rfl

theorem flat6 {css : List (List Value)} (h : ∀ cs ∈ css, cs.length = 6) : css.flatten.length = 6 * css.length := by
  induction css with
  | nil => rfl
  | cons c css ih =>
    rw [List.flatten_cons, List.length_append, h c (by simp), ih (fun x hx => h x (by simp [hx])), List.length_cons]; omega
theorem flat6_get {css : List (List Value)} (h : ∀ cs ∈ css, cs.length = 6) {i j : Nat} {cs : List Value} (hi : css[i]? = some cs) (hj : j < 6) : css.flatten[6 * i + j]? = cs[j]? := by
  induction css generalizing i with
  | nil => simp at hi
  | cons c css ih =>
    rw [List.flatten_cons]
    have hc : c.length = 6 := h c (by simp)
    cases i with
    | zero =>
      simp at hi; subst hi
      rw [List.getElem?_append_left (by omega)]; simp
    | succ i =>
      simp at hi
      rw [List.getElem?_append_right (by omega), hc, show 6 * (i + 1) + j - 6 = 6 * i + j by omega]
      exact ih (fun x hx => h x (by simp [hx])) hi
theorem KidsAt.six {S : Nat → Prop} {w : World} {d : Nat} {css : List (List Value)} {acc : List Ob} (h : KidsAt S d w css acc) : ∀ cs ∈ css, cs.length = 6 := by
  intro cs hcs
  obtain ⟨i, hi, rfl⟩ := List.mem_iff_getElem.1 hcs
  have hi2 : i < acc.length := by rw [← h.1]; exact hi
  exact (h.2 i _ acc[i] (List.getElem?_eq_getElem hi) (List.getElem?_eq_getElem hi2)).1

/-- The slice of kids, as the relation between cells and objects asks for it. -/
theorem kids_at {S S' : Nat → Prop} {w : World} {B d : Nat} {v : Value} {css : List (List Value)} {acc : List Ob} (h : w.ownsRow B 26 6 v acc.length css.flatten) (hk : KidsAt S d w css acc)
    (hS : ∀ b, S b → S' b) (hB : ∀ b, B ≤ b → S' b) :
    (acc = [] ∧ ∃ p c, v = .slice p 0 c) ∨ ∃ b off c, v = .slice (some ⟨b, off, none⟩) acc.length c ∧ S' b ∧
      ∀ i (h : i < acc.length), ∃ ks : List Value, ks.length = 6 ∧ (∀ j (hj : j < ks.length), w.cell? ⟨b, off + 6 * i + j, none⟩ = some ks[j]) ∧ ObjAt S' d w ks acc[i] := by
  rcases h.2 with ⟨h1, h2⟩ | ⟨g, cap, cur, h1, h2, h3⟩
  · exact .inl ⟨List.eq_nil_of_length_eq_zero h2, _, _, h1⟩
  · refine .inr ⟨g, 0, cap, h1, hB g h2, fun i hi => ?_⟩
    have hi' : i < css.length := by rw [hk.1]; exact hi
    have hks := hk.2 i css[i] acc[i] (List.getElem?_eq_getElem hi') (List.getElem?_eq_getElem hi)
    refine ⟨css[i], hks.1, fun j hj => ?_, hks.2.weaken (fun b hb _ => hS b hb) d⟩
    have hlen : 6 * i + j < acc.length * 6 := by have := hks.1; omega
    have hcell := World.ownsRow.cellAt (g := g) (cap := cap) (by rw [← h1]; exact h) (6 * i + j) hlen
    rw [show 0 + 6 * i + j = 6 * i + j by omega, hcell, flat6_get hk.six (List.getElem?_eq_getElem hi') (by have := hks.1; omega)]
    exact List.getElem?_eq_getElem hj
theorem objAt_arr {S S' : Nat → Prop} {w : World} {B d : Nat} {v : Value} {css : List (List Value)} {acc : List Ob} (h : w.ownsRow B 26 6 v acc.length css.flatten) (hk : KidsAt S d w css acc)
    (hS : ∀ b, S b → S' b) (hB : ∀ b, B ≤ b → S' b) : ObjAt S' (d + 1) w (objCells 6 0 0 [] (.slice none 0 0) v) (.mk 6 0 0 [] [] acc) :=
  ⟨_, _, rfl, .inl ⟨rfl, _, _, rfl⟩, kids_at h hk hS hB⟩
theorem objCells_one (o : Ob) (p1 : Option Addr) (n1 c1 : Nat) (p2 : Option Addr) (n2 c2 : Nat) : ∀ u ∈ objCells o.kind o.n o.g o.s (.slice p1 n1 c1) (.slice p2 n2 c2), u.oneCell' = true := by
  intro u hu; simp [objCells] at hu; rcases hu with rfl | rfl | rfl | rfl | rfl | rfl <;> rfl
end Go.Proofs.YtpadlepdgnlgnaaGreatDoor
