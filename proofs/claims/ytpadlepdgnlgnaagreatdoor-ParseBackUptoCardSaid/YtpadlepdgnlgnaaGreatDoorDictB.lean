/- Keys gathered out of a map, sorted, and the values behind them: laws for the dictionary's reader. -/
import Derived.Test.YtpadlepdgnlgnaaGreatDoorDictA
set_option linter.all false
namespace Go.Proofs.YtpadlepdgnlgnaaGreatDoor
open Go.RowKit Fo Go.Maps

theorem Tryz.infoStr : (Tryz.prog.info? 9).map (fun i => (i.zero, i.size, i.bytes)) = some (some (.string ⟨#[]⟩), 1, 16) := by kernel_rfl
def ownS (w : World) (B : Nat) (v : Value) (ss : List L) : Prop := w.ownsRow B 9 1 v ss.length (ss.map encStr)
theorem ownS_nil (w : World) (B : Nat) : ownS w B (.slice none 0 0) [] := ⟨by simp, .inl ⟨rfl, rfl⟩⟩
theorem ownS_below {w w' : World} {B : Nat} {v : Value} {ss : List L} (h : ownS w B v ss) (hb : Below w.heap.size w w') : ownS w' B v ss :=
  World.ownsRow.kept h (row := none) ⟨hb.os, hb.tape, hb.output, hb.size, fun k hk _ => hb.block k hk⟩ (Classical.em _)
theorem ownS_alloc {w : World} {B : Nat} {v : Value} {ss : List L} (h : ownS w B v ss) (o : Go.Obj) : ownS (w.alloc o) B v ss := World.ownsRow.alloc h o
/-- One string is appended to strings of the call's own. -/
theorem appendS {ops : Array Oper} {rest : List Oper} {o : Oper} {a : Act} {Q : Exit → Act → World → Prop} {w : World} (hgd : o.guard = none) (s x : Operand)
    (ho : o.op = .call { callee := .builtin .append, args := #[s, x], argTypes := #[23, 23] })
    (B : Nat) (v : Value) (ss : List L) (y : L) (hown : ownS w B v ss) (hs : a.eval s = v)
    (gx : Nat) (hx : a.eval x = .slice (some ⟨gx, 0, none⟩) 1 1) (hgx : w.heap.size = gx) (hlen : ss.length ≤ 100000) (hB : B ≤ w.heap.size)
    (h : ∀ p c w', ownS w' B (.slice p (ss.length + 1) c) (ss ++ [y]) → Below B w w' → w.heap.size < w'.heap.size → wpList Tryz.prog ops Q rest (a.put o.dst (.slice p (ss.length + 1) c)) w') :
    wpList Tryz.prog ops Q (o :: rest) a (w.alloc (.cells #[.string ⟨y.toArray⟩] 9)) := by
  subst hgx
  obtain ⟨i0, hi, hz0, hz1, hz2⟩ := info_parts Tryz.infoStr
  refine wpList_append_own _ hgd s x 23 ho B 9 i0 (.string ⟨#[]⟩) 1 16 Tryz.underlying23 hi hz0 hz1 hz2 rfl (by decide) v ss.length _ hs (hown.alloc _) ⟨w.heap.size, 0, none⟩ 1 1 [.string ⟨y.toArray⟩] hx rfl ?_ ?_ ?_ ?_ ?_ ?_
  · intro j u hj
    have hj0 : j = 0 := by
      rcases j with _ | j
      · rfl
      · simp at hj
    subst hj0
    simp at hj; subst hj
    rw [show (⟨w.heap.size, 0, none⟩ : Addr).add 0 = ⟨w.heap.size, 0, none⟩ from rfl, World.cell?_alloc_at _ _ _ _ rfl]; rfl
  · intro u hu; simp at hu; subst hu; rfl
  · unfold maxLen; omega
  · omega
  · simp; omega
  · intro v' w' hown' hg _
    obtain ⟨p, c, rfl⟩ := own_slice hown'
    refine h p c w' ?_ (((Below.refl B w).alloc hB _).trans ((Below.refl B _).grown hg (by simp; omega) (own_base hown))) (by have := hg.size; simp at this; omega)
    unfold ownS
    simpa using hown'

def keepB (vals : List (L × Obv)) (x : L) : Bool := vals.any fun p => p.1 == x && p.2.k != 0
theorem keepB_at {D : DataW Value} {vals : List (L × Obv)} (h : MapIs D vals) {x : L} {c : Obv} (hh : Maps.has D (.string x) = true) (hat : ∀ z, D.atKey (.string x) z = .held c.val) : keepB vals x = (c.k != 0) ∧ (x, c) ∈ vals := by
  rw [h.has] at hh
  obtain ⟨p, hp, hpx⟩ := List.any_eq_true.1 hh
  have hpx' : p.1 = x := by simpa using hpx
  have h1 := h.at' p hp .nil
  rw [hpx', hat] at h1
  have h2 : c.val = p.2.val := by simpa using h1
  have h3 : c = p.2 := by
    unfold Obv.val at h2
    cases c; cases hpp : p.2
    rw [hpp] at h2
    simp at h2 ⊢
    obtain ⟨a1, a2, a3, a4, ⟨a5, a6, a7⟩, a8, a9, a10⟩ := h2
    exact ⟨a1, a2, a3, a4, a5, a6, a7, a8, a9, a10⟩
  refine ⟨?_, by rw [h3, ← hpx']; exact hp⟩
  unfold keepB
  cases hk : (c.k != 0)
  · rw [List.any_eq_false]
    intro q hq
    by_cases hqx : q.1 = x
    · have : q = p := by
        have hn := h.nodup
        obtain ⟨i, hi, rfl⟩ := List.mem_iff_getElem.1 hq
        obtain ⟨j, hj, rfl⟩ := List.mem_iff_getElem.1 hp
        by_cases hij : i = j
        · subst hij; rfl
        · exfalso
          have hne := List.pairwise_iff_getElem.1 hn
          rcases Nat.lt_or_gt_of_ne hij with h | h
          · exact hne i j (by simpa using hi) (by simpa using hj) h (by simp [hqx, hpx'])
          · exact hne j i (by simpa using hj) (by simpa using hi) h (by simp [hqx, hpx'])
      subst this
      rw [← h3]; simp [hk]
    · simp [hqx]
  · exact List.any_eq_true.2 ⟨p, hp, by rw [← h3]; simp [hpx', hk]⟩
theorem ranges_of {P : Program} {k : TypeId} {R : Value → Option (DataW Value × List MemPlace)} {w w' : World} {b r n : Nat} {D : DataW Value} {left : Lit → Bool} {cnt : Nat} (h : w.ranges P k R b r n D left cnt)
    (hb : w'.heap[b]? = w.heap[b]?) (hr : w'.heap[r]? = w.heap[r]?) : w'.ranges P k R b r n D left cnt := by
  obtain ⟨es, clock, since, seen, c0, h1, F, hs, hD, h2, rest⟩ := h
  exact ⟨es, clock, since, seen, c0, hb.trans h1, F, hs, hD, hr.trans h2, rest⟩
theorem set_fourth {w : World} {b : Nat} {t : TypeId} {v0 v1 v2 v3 v4 v5 v : Value} (h : w.heap[b]? = some (.cells #[v0, v1, v2, v3, v4, v5] t (0, 0))) :
    (w.setCell ⟨b, 4, none⟩ v).heap[b]? = some (.cells #[v0, v1, v2, v3, v, v5] t (0, 0)) := by
  have hlt := lt_of_block h
  have h' : w.heap[b] = .cells #[v0, v1, v2, v3, v4, v5] t (0, 0) := by simpa [Array.getElem?_eq_getElem hlt] using h
  simp only [World.setCell, Array.getElem?_modify]
  simp [h]
/-- The second loop: keys are gathered in whatever order. -/
structure RInv (wc : World) (bm n : Nat) (vals : List (L × Obv)) (D : DataW Value) (wr : World) (left : Lit → Bool) (cnt : Nat) (sa : List L) (v : Value) : Prop where
  hbm : bm < wc.heap.size
  hrg : wr.ranges Tryz.prog 9 obR bm (wc.heap.size + 1) n D left cnt
  hC : Collected D left sa
  hob : wr.heap[wc.heap.size]? = some (.cells #[.int .i64 7, .int .i64 0, .int .i64 0, .string ⟨#[]⟩, v, .slice none 0 0] 26 (0, 0))
  hown : ownS wr (wc.heap.size + 2) v (sa.filter (keepB vals))
  hb : Below wc.heap.size wc wr
  hcnt : sa.length + cnt ≤ Maps.size D
theorem RInv.skip {wc : World} {bm n : Nat} {vals : List (L × Obv)} {D : DataW Value} {wr w2 : World} {left : Lit → Bool} {cnt cnt2 : Nat} {sa : List L} {v : Value} {x : L} {c : Obv} (h : RInv wc bm n vals D wr left cnt sa v)
    (hlk : left (.string x) = true) (hat : ∀ zd, D.atKey (.string x) zd = .held c.val) (hrg2 : w2.ranges Tryz.prog 9 obR bm (wc.heap.size + 1) n D (fun z => left z && !z.sameKey (.string x)) cnt2) (hlt : cnt2 < cnt) (hg2 : wr.grownBy w2 (some (wc.heap.size + 1)))
    (hk : keepB vals x = false) (o : Go.Obj) : RInv wc bm n vals D (w2.alloc o) (fun z => left z && !z.sameKey (.string x)) cnt2 (sa ++ [x]) v := by
  have l1 := h.hrg.lt
  have l2 := hg2.size
  have hbk : ∀ k, k < wc.heap.size + 1 → w2.heap[k]? = wr.heap[k]? := fun k hk => hg2.block k (by omega) (by simp; omega)
  refine ⟨h.hbm, hrg2.alloc o, h.hC.step hlk hat, ?_, ?_, ?_, by have := h.hcnt; simp; omega⟩
  · rw [Below.heap_alloc _ _ _ (by omega), hbk _ (by omega)]; exact h.hob
  · rw [List.filter_append]
    have : [x].filter (keepB vals) = [] := by simp [hk]
    rw [this, List.append_nil]
    have hne := own_base h.hown
    exact (World.ownsRow.kept h.hown hg2 (.inr (by intro h; have := hne _ h; omega))).alloc o
  · have hs := h.hb.size
    exact ⟨hg2.os.trans h.hb.os, hg2.tape.trans h.hb.tape, hg2.output.trans h.hb.output, by simp; omega, fun k hk => by
      rw [Below.heap_alloc _ _ _ (by omega), hbk k (by omega)]; exact h.hb.block k hk⟩
theorem RInv.push {wc : World} {bm n : Nat} {vals : List (L × Obv)} {D : DataW Value} {wr w2 wz : World} {left : Lit → Bool} {cnt cnt2 : Nat} {sa : List L} {v v' : Value} {x : L} {c : Obv} (h : RInv wc bm n vals D wr left cnt sa v)
    (hlk : left (.string x) = true) (hat : ∀ zd, D.atKey (.string x) zd = .held c.val) (hrg2 : w2.ranges Tryz.prog 9 obR bm (wc.heap.size + 1) n D (fun z => left z && !z.sameKey (.string x)) cnt2) (hlt : cnt2 < cnt) (hg2 : wr.grownBy w2 (some (wc.heap.size + 1)))
    (hk : keepB vals x = true) (o : Go.Obj) (hbz : Below (wc.heap.size + 2) (w2.alloc o) wz) (hown : ownS wz (wc.heap.size + 2) v' (sa.filter (keepB vals) ++ [x])) :
    RInv wc bm n vals D (wz.setCell ⟨wc.heap.size, 4, none⟩ v') (fun z => left z && !z.sameKey (.string x)) cnt2 (sa ++ [x]) v' := by
  have l1 := h.hrg.lt
  have l2 := hg2.size
  have l3 := hbz.size
  simp at l3
  have hbk : ∀ k, k < wc.heap.size + 1 → w2.heap[k]? = wr.heap[k]? := fun k hk => hg2.block k (by omega) (by simp; omega)
  have hbk2 : ∀ k, k < wc.heap.size + 2 → wz.heap[k]? = w2.heap[k]? := fun k hk => (hbz.block k hk).trans (Below.heap_alloc _ _ _ (by omega))
  have hset : ∀ k, k ≠ wc.heap.size → (wz.setCell ⟨wc.heap.size, 4, none⟩ v').heap[k]? = wz.heap[k]? := fun k hk => Below.heap_setCell _ _ _ _ hk
  have hbm := h.hbm
  refine ⟨hbm, ranges_of hrg2 ?_ ?_, h.hC.step hlk hat, ?_, ?_, ?_, by have := h.hcnt; simp; omega⟩
  · rw [hset _ (by omega), hbk2 _ (by omega)]
  · rw [hset _ (by omega), hbk2 _ (by omega)]
  · refine set_fourth (v4 := v) ?_
    rw [hbk2 _ (by omega), hbk _ (by omega)]; exact h.hob
  · rw [List.filter_append]
    have : [x].filter (keepB vals) = [x] := by simp [hk]
    rw [this]
    have hne := own_base hown
    refine World.ownsRow.kept hown (row := some wc.heap.size) ⟨rfl, rfl, rfl, by simp [World.setCell], fun k h1 h2 => hset k (by intro h; exact h2 (by rw [h]))⟩ (.inr (by intro h; have := hne _ h; omega))
  · have hs := h.hb.size
    exact ⟨hbz.os.trans (hg2.os.trans h.hb.os), hbz.tape.trans (hg2.tape.trans h.hb.tape), hbz.output.trans (hg2.output.trans h.hb.output), by simp [World.setCell]; omega, fun k hk => by
      rw [hset k (by omega), hbk2 k (by omega), hbk k (by omega)]; exact h.hb.block k hk⟩
end Go.Proofs.YtpadlepdgnlgnaaGreatDoor
