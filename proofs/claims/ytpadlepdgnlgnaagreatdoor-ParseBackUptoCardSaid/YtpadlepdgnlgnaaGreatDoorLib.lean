/- Small laws for the walks: bytes that a call gathers in a slice of its own, cells of blocks below, worlds. -/
import Derived.Test.YtpadlepdgnlgnaaGreatDoorOct
import Derived.OneCell
import Derived.Deep.DeepFit
import Derived.Deep.LoopGhost
set_option linter.all false
namespace Go.Proofs.YtpadlepdgnlgnaaGreatDoor
open Go.RowKit Fo

theorem Tryz.infoU8 : (Tryz.prog.info? 5).map (fun i => (i.zero, i.size, i.bytes)) = some (some (.int .u8 0), 1, 1) := by kernel_rfl

theorem bcell {W w1 : World} (hb : Below W.heap.size W w1) : (∀ b o, b < W.heap.size → w1.cell? ⟨b, o, none⟩ = W.cell? ⟨b, o, none⟩) ∧ (∀ b o, b < W.heap.size → w1.frozen? ⟨b, o, none⟩ = W.frozen? ⟨b, o, none⟩) :=
  ⟨fun b o h => hb.cell (p := ⟨b, o, none⟩) h, fun b o h => hb.frozen (p := ⟨b, o, none⟩) h⟩

theorem bcellB {B : Nat} {W w1 : World} (hb : Below B W w1) : (∀ b o, b < B → w1.cell? ⟨b, o, none⟩ = W.cell? ⟨b, o, none⟩) ∧ (∀ b o, b < B → w1.frozen? ⟨b, o, none⟩ = W.frozen? ⟨b, o, none⟩) :=
  ⟨fun b o h => hb.cell (p := ⟨b, o, none⟩) h, fun b o h => hb.frozen (p := ⟨b, o, none⟩) h⟩
theorem belowIter {B : Nat} {a w : World} (h : Below B a w) (hB : B ≤ w.heap.size) (s : ByteArray) (p : Nat) : Below B a (w.iter s p) := h.alloc hB _
theorem belowDrewN {B : Nat} {a w : World} (h : Below B a w) (n : Nat) : Below B a (w.drewN n) := ⟨h.os, h.tape, h.output, h.size, h.block⟩

/-- The slice v is the call's own (its array lies in a block from B on) and holds the bytes l. -/
def ownB (w : World) (B : Nat) (v : Value) (l : L) : Prop := w.ownsRow B 5 1 v l.length (l.map fun c => .int .u8 c.toNat)
theorem ownB_nil (w : World) (B : Nat) : ownB w B (.slice none 0 0) [] := ⟨by simp, .inl ⟨rfl, rfl⟩⟩
theorem ownB_below {w w' : World} {B : Nat} {v : Value} {l : L} (h : ownB w B v l) (hb : Below w.heap.size w w') : ownB w' B v l :=
  World.ownsRow.kept h (row := none) ⟨hb.os, hb.tape, hb.output, hb.size, fun k hk _ => hb.block k hk⟩ (Classical.em _)
theorem ownB_alloc {w : World} {B : Nat} {v : Value} {l : L} (h : ownB w B v l) (o : Obj) : ownB (w.alloc o) B v l := World.ownsRow.alloc h o
theorem ownB_slice {w : World} {B : Nat} {v : Value} {l : L} (h : ownB w B v l) : ∃ p c, v = .slice p l.length c := by
  rcases h.2 with ⟨h1, h2⟩ | ⟨g, cap, cur, h1, _⟩
  · exact ⟨none, 0, by rw [h1, h2]⟩
  · exact ⟨_, _, h1⟩
theorem below_of_grown {w w' : World} {B : Nat} {v : Value} {n : Nat} {e : TypeId} {xs : List Value} (hown : w.ownsRow B e n v xs.length xs ∨ True) {row : Option Nat} (hg : w.grownBy w' row) (hB : B ≤ w.heap.size) (hr : ∀ k, row = some k → B ≤ k) : Below B w w' :=
  (Below.refl B w).grown hg hB hr
theorem own_base {w : World} {B : Nat} {e : TypeId} {s n : Nat} {v : Value} {xs : List Value} (h : w.ownsRow B e s v n xs) : ∀ k, v.ownBlock = some k → B ≤ k := by
  rcases h.2 with ⟨h1, _⟩ | ⟨g, cap, cur, h1, h2, _⟩
  · subst h1; intro k hk; simp [Value.ownBlock] at hk
  · subst h1; intro k hk; simp [Value.ownBlock] at hk; omega

theorem u8_back (n : Int) (h0 : 0 ≤ n) (h1 : n < 256) : ((UInt8.ofNat n.toNat).toNat : Int) = n := by
  simp only [UInt8.toNat_ofNat']; omega
/-- One byte is appended to bytes of the call's own. -/
theorem append1 {ops : Array Oper} {rest : List Oper} {o : Oper} {a : Act} {Q : Exit → Act → World → Prop} {w : World} (hgd : o.guard = none) (s x : Operand)
    (ho : o.op = .call { callee := .builtin .append, args := #[s, x], argTypes := #[80, 80] })
    (B : Nat) (v : Value) (l : L) (n : Int) (hown : ownB w B v l) (hs : a.eval s = v)
    (hx : a.eval x = .slice (some ⟨w.heap.size, 0, none⟩) 1 1) (hlen : l.length + 1 ≤ 140737488355328) (hB : B ≤ w.heap.size) (h0 : 0 ≤ n) (h1 : n < 256)
    (h : ∀ v' w', ownB w' B v' (l ++ [UInt8.ofNat n.toNat]) → Below B w w' → w.heap.size < w'.heap.size → wpList Tryz.prog ops Q rest (a.put o.dst v') w') :
    wpList Tryz.prog ops Q (o :: rest) a (w.alloc (.cells #[.int .u8 n] 5)) := by
  obtain ⟨i0, hi, hz0, hz1, hz2⟩ := info_parts Tryz.infoU8
  refine wpList_append_own _ hgd s x 80 ho B 5 i0 (.int .u8 0) 1 1 Tryz.underlying80 hi hz0 hz1 hz2 rfl (by decide) v l.length _ hs (hown.alloc _) ⟨w.heap.size, 0, none⟩ 1 1 [.int .u8 n] hx rfl ?_ ?_ ?_ ?_ ?_ ?_
  · intro j u hj
    have hj0 : j = 0 := by
      rcases j with _ | j
      · rfl
      · simp at hj
    subst hj0
    simp at hj; subst hj
    rw [show (⟨w.heap.size, 0, none⟩ : Addr).add 0 = ⟨w.heap.size, 0, none⟩ from rfl, World.cell?_alloc_at _ _ _ _ rfl]; rfl
  · intro u hu; simp at hu; subst hu; rfl
  · unfold maxLen; omega
  · omega
  · simp; omega
  · intro v' w' hown' hg _
    refine h v' w' ?_ (((Below.refl B w).alloc hB _).trans ((Below.refl B _).grown hg (by simp; omega) (own_base hown))) (by have := hg.size; simp at this; omega)
    have hn : (Value.int .u8 n) = .int .u8 ((UInt8.ofNat n.toNat).toNat : Int) := by
      rw [u8_back n h0 h1]
    rw [hn] at hown'
    unfold ownB
    simpa using hown'

theorem foldl_push (l : L) (r : ByteArray) : (l.map fun c => ((c.toNat : Nat) : Int)).foldl (fun (r : ByteArray) (n : Int) => r.push (UInt8.ofNat n.toNat)) r = ⟨r.data ++ l.toArray⟩ := by
  induction l generalizing r with
  | nil => simp
  | cons c l ih =>
    simp only [List.map_cons, List.foldl_cons]
    rw [ih]
    simp [ByteArray.push]
/-- string(v) of bytes of the call's own. -/
theorem convB {w : World} {B : Nat} {v : Value} {l : L} (h : ownB w B v l) : (Go.convert 80 9 v).run Tryz.prog w = .ok (.string ⟨l.toArray⟩) w := by
  rcases h.2 with ⟨h1, h2⟩ | ⟨g, cap, cur, h1, h2, h3, h4, h5, h6, h7⟩
  · have hl : l = [] := List.eq_nil_of_length_eq_zero h2
    subst hl; subst h1
    rw [run_convert_bytes_string w _ _ 5 _ _ _ Tryz.underlying80 Tryz.underlying5 Tryz.underlying9]
    rfl
  · subst h1
    rw [run_convert_bytes_string w _ _ 5 _ _ _ Tryz.underlying80 Tryz.underlying5 Tryz.underlying9]
    rw [run_bytesToString w _ _ _ (l.map fun c => (c.toNat : Int)), foldl_push]
    · show Result.ok (Value.string ⟨#[] ++ l.toArray⟩) w = _
      simp
    · have hc := run_loadCells_list (P := Tryz.prog) (w := w) ⟨g, 0, none⟩ (l.map fun c => Value.int .u8 c.toNat) (by
        intro j u hj
        have := World.ownsRow.cellAt (base := B) (e := 5) (size := 1) (g := g) (cap := cap) (w := w) (xs := l.map fun c => Value.int .u8 c.toNat) (n := l.length) ⟨h.1, .inr ⟨g, cap, cur, rfl, h2, h3, h4, h5, h6, h7⟩⟩ j (by
          have := (List.getElem?_eq_some_iff.1 hj).1; simpa using this)
        rw [hj] at this
        rw [← this]
        cases j <;> simp [Addr.add])
      simpa [List.map_map, Function.comp_def] using hc
end Go.Proofs.YtpadlepdgnlgnaaGreatDoor
