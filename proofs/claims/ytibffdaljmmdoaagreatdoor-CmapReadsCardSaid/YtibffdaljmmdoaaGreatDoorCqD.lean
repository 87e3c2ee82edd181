/- The reference's reader of a mapping: a code and its text are told. -/
import Derived.Test.YtibffdaljmmdoaaGreatDoorCqC
set_option linter.all false
namespace Go.Proofs.YtibffdaljmmdoaaGreatDoor
open Go.RowKit Fo Go.Maps

/-- A row that opens a gap at place i for one more. -/
def RowJ {α : Type} (orig : List α) (i : Nat) (row : List α) : Prop := row.length = orig.length + 1 ∧ row.take i = orig.take i ∧ row.drop (i + 1) = orig.drop i
theorem RowJ.start {α : Type} (orig : List α) (x : α) : RowJ orig orig.length (orig ++ [x]) := by
  refine ⟨by simp, by simp, ?_⟩
  rw [List.drop_eq_nil_of_le (by simp), List.drop_eq_nil_of_le (by simp)]
theorem RowJ.get {α : Type} {orig row : List α} {i : Nat} (h : RowJ orig (i + 1) row) : row[i]? = orig[i]? := by
  have := congrArg (fun l => l[i]?) h.2.1
  simpa [List.getElem?_take] using this
theorem RowJ.step {α : Type} {orig row : List α} {i : Nat} {x : α} (h : RowJ orig (i + 1) row) (hx : orig[i]? = some x) : RowJ orig i (row.set (i + 1) x) := by
  obtain ⟨h1, h2, h3⟩ := h
  have hi : i < orig.length := (List.getElem?_eq_some_iff.1 hx).1
  refine ⟨by simpa using h1, ?_, ?_⟩
  · have := congrArg (fun l => l.take i) h2
    simp only [List.take_take] at this
    rw [show min i (i + 1) = i by omega] at this
    rw [List.take_set_of_le (by omega)]; exact this
  · rw [List.drop_set, if_neg (by omega), Nat.sub_self]
    rw [show row.drop (i + 1) = row[i + 1]'(by omega) :: row.drop (i + 1 + 1) from List.drop_eq_getElem_cons (by omega)]
    rw [List.set_cons_zero, h3]
    rw [List.drop_eq_getElem_cons hi]
    rw [List.getElem?_eq_getElem hi] at hx
    simp at hx
    rw [hx]
theorem RowJ.fin {α : Type} {orig row : List α} {i : Nat} {x : α} (h : RowJ orig i row) (hi : i ≤ orig.length) : row.set i x = orig.take i ++ x :: orig.drop i := by
  obtain ⟨h1, h2, h3⟩ := h
  have hi2 : i < row.length := by omega
  have e : row.set i x = row.take i ++ x :: row.drop (i + 1) := by
    rw [List.set_eq_take_append_cons_drop, if_pos hi2]
  rw [e, h2, h3]
theorem mapCells_set (m : CM) (k : Nat) (hk : k < m.length) (d : Int) (y : L) : ((mapCells m).set (k * 2) (.int .i64 d)).set (k * 2 + 1) (.string ⟨y.toArray⟩) = mapCells (m.set k (d, y)) := by
  induction m generalizing k with
  | nil => exact absurd hk (Nat.not_lt_zero _)
  | cons p m ih =>
    match k with
    | 0 => rfl
    | k + 1 =>
      have h := ih k (by simpa using hk)
      have e : mapCells (p :: m) = .int .i64 p.1 :: .string ⟨p.2.toArray⟩ :: mapCells m := rfl
      have e2 : mapCells ((p :: m).set (k + 1) (d, y)) = .int .i64 p.1 :: .string ⟨p.2.toArray⟩ :: mapCells (m.set k (d, y)) := rfl
      rw [e, e2, show (k + 1) * 2 = k * 2 + 1 + 1 by omega, ← h]
      rfl
theorem ins_at : ∀ (m : CM) (c : Int) (x : L) (K : Nat), K ≤ m.length → (∀ j (hj : j < m.length), j < K → (m[j]).1 < c) → (∀ j (hj : j < m.length), K ≤ j → c < (m[j]).1) →
    insC m c x = m.take K ++ (c, x) :: m.drop K
  | [], c, x, K, hK, _, _ => by
    obtain rfl : K = 0 := by simpa using hK
    rfl
  | (d, t) :: m, c, x, 0, _, _, h2 => by
    have := h2 0 (by simp) (Nat.le_refl _)
    simp only [List.getElem_cons_zero] at this
    rw [insC, if_pos this]; rfl
  | (d, t) :: m, c, x, K + 1, hK, h1, h2 => by
    have := h1 0 (by simp) (by omega)
    simp only [List.getElem_cons_zero] at this
    rw [insC, if_neg (by omega), if_neg (by omega), ins_at m c x K (by simpa using hK) (fun j hj hjK => by have := h1 (j + 1) (by simpa using hj) (by omega); simpa using this) (fun j hj hjK => by have := h2 (j + 1) (by simpa using hj) (by omega); simpa using this)]
    rfl
/-- A mapping is appended; what else turns is the row's own block. -/
theorem mappendG {ops : Array Oper} {rest : List Oper} {o : Oper} {a : Act} {Q : Exit → Act → World → Prop} {w : World} (hgd : o.guard = none) (s x : Operand)
    (ho : o.op = .call { callee := .builtin .append, args := #[s, x], argTypes := #[23, 23] })
    (B : Nat) (v : Value) (m : CM) (n : Nat) (hn : m.length = n) (c : Int) (y : L) (hown : mownS w B v m) (hs : a.eval s = v)
    (hx : a.eval x = .slice (some ⟨w.heap.size, 0, none⟩) 1 1) (hlen : n ≤ 1000000000) (hB : B ≤ w.heap.size)
    (h : ∀ g q w', mownS w' B (.slice (some ⟨g, 0, none⟩) (n + 1) q) (m ++ [(c, y)]) → (w.alloc (.cells #[.int .i64 c, .string ⟨y.toArray⟩] 44)).grownBy w' v.ownBlock → wpList Tryz.prog ops Q rest (a.put o.dst (.slice (some ⟨g, 0, none⟩) (n + 1) q)) w') :
    wpList Tryz.prog ops Q (o :: rest) a (w.alloc (.cells #[.int .i64 c, .string ⟨y.toArray⟩] 44)) := by
  subst hn
  obtain ⟨i0, hi, hz0, hz1, hz2⟩ := info_parts Tryz.cinfoMap
  refine wpList_append_own _ hgd s x 23 ho B 44 i0 (.agg #[.int .i64 0, .string ⟨#[]⟩]) 2 24 Tryz.underlying23 hi hz0 hz1 hz2 rfl (by decide) v m.length _ hs (hown.alloc _) ⟨w.heap.size, 0, none⟩ 1 1 [.int .i64 c, .string ⟨y.toArray⟩] hx rfl ?_ ?_ ?_ ?_ ?_ ?_
  · exact World.news_of_block (cs := #[.int .i64 c, .string ⟨y.toArray⟩]) (t := 44) (fr := (0, 0)) (heap_alloc_new w _)
  · intro u hu; simp at hu; rcases hu with rfl | rfl <;> rfl
  · unfold maxLen; omega
  · omega
  · simp; omega
  · intro v' w' hown' hg _
    have hown2 : mownS w' B v' (m ++ [(c, y)]) := by
      unfold mownS
      rw [mapCells, List.flatMap_append, List.length_append]
      exact hown'
    rcases hown'.2 with ⟨rfl, h0⟩ | ⟨g, cap, cur, rfl, _⟩
    · omega
    · exact h g cap w' hown2 hg
theorem RB.ne_own {w : World} {B r g n q : Nat} {s : ByteArray} {a z t : Nat} {v : Value} {e : Int} {m : CM} (h : RB w r s a z v t e) (ho : mownS w B (.slice (some ⟨g, 0, none⟩) n q) m) : g ≠ r := by
  rintro rfl
  rcases ho.2 with ⟨h1, _⟩ | ⟨g', cap, cur, h1, _, hg, _⟩
  · cases h1
  · cases h1
    exact h.ne_map _ _ hg
theorem RB.ne_ownBlock {w : World} {B r n : Nat} {s : ByteArray} {a z t : Nat} {v u : Value} {e : Int} {m : CM} (h : RB w r s a z v t e) (ho : w.ownsRow B 44 2 u n (mapCells m)) : some r ≠ u.ownBlock := by
  rcases ho.2 with ⟨rfl, _⟩ | ⟨g', cap, cur, rfl, _, hg, _⟩
  · simp [Value.ownBlock]
  · intro he
    simp [Value.ownBlock] at he
    subst he
    exact h.ne_map _ _ hg
theorem mown_cells {w : World} {B g n q : Nat} {m : CM} (ho : mownS w B (.slice (some ⟨g, 0, none⟩) n q) m) (hn : m.length = n) (k : Nat) (hk : k < m.length) :
    w.cell? ⟨g, k * 2, none⟩ = some (.int .i64 (m[k]).1) ∧ w.cell? ⟨g, k * 2 + 1, none⟩ = some (.string ⟨(m[k]).2.toArray⟩) := by
  subst hn
  have h1 := World.ownsRow.cellAt ho (k * 2) (by omega)
  have h2 := World.ownsRow.cellAt ho (k * 2 + 1) (by omega)
  rw [h1, h2, Nat.mul_comm]; exact mapCells_at m k hk
theorem mown_some {w : World} {B n q : Nat} {p : Option Addr} {m : CM} (ho : mownS w B (.slice p n q) m) (hm : 0 < m.length) : ∃ g, p = some ⟨g, 0, none⟩ := by
  rcases ho.2 with ⟨_, h1⟩ | ⟨g', cap, cur, h1, _⟩
  · omega
  · cases h1; exact ⟨g', rfl⟩
theorem mown_set {w : World} {B g n q : Nat} {m : CM} (ho : mownS w B (.slice (some ⟨g, 0, none⟩) n q) m) (hn : m.length = n) (k : Nat) (hk : k < m.length) (d : Int) (y : L) :
    mownS ((w.setCell ⟨g, k * 2, none⟩ (.int .i64 d)).setCell ⟨g, k * 2 + 1, none⟩ (.string ⟨y.toArray⟩)) B (.slice (some ⟨g, 0, none⟩) n q) (m.set k (d, y)) := by
  subst hn
  have h1 := ((World.ownsRow.stored ho (k * 2) (.int .i64 d)).1.stored (k * 2 + 1) (.string ⟨y.toArray⟩)).1
  rw [mapCells_set m k hk] at h1
  unfold mownS
  rw [List.length_set]
  exact h1
theorem mown_frozen {w : World} {B g n q : Nat} {m : CM} (ho : mownS w B (.slice (some ⟨g, 0, none⟩) n q) m) (hn : m.length = n) (o : Nat) : w.frozen? ⟨g, o, none⟩ = false := by
  subst hn
  exact World.ownsRow.frozenAt ho o
theorem set2_one (w : World) (g o1 o2 : Nat) (u1 u2 : Value) : OneB g w ((w.setCell ⟨g, o1, none⟩ u1).setCell ⟨g, o2, none⟩ u2) := (OneB.set _ _ _ _).more _ _
/-- What telling turns. -/
def TelQ (B r : Nat) (s : ByteArray) (a : Nat) (w : World) (R : Res CS) (e : Ending) (w' : World) : Prop :=
  match R with
  | .good σ => e = .returned (.tuple #[]) ∧ RS B w' r s a σ ∧ Fq B w w'
  | .bad k => e = .returned (.tuple #[]) ∧ RE B w' r k ∧ Fq B w w'
set_option maxRecDepth 100000 in
set_option maxHeartbeats 1000000 in
theorem rtell_err (B r : Nat) (k : Int) (c : Int) (x : ByteArray) (w : World) (hE : RE B w r k) :
    Calls Tryz.prog 53 #[.pointer (some ⟨r, 0, none⟩), .int .i64 c, .string x] w fun e w' => e = .returned (.tuple #[]) ∧ RE B w' r k ∧ Fq B w w' := by
  obtain ⟨hc5, hf5⟩ := hE.cell5
  have hk : (k != 0) = true := by simpa using hE.2.1
  go_enter Tryz.func53, Tryz.ntmps53
  go_wp2
  refine bodyPost_ret (results_none rfl _ _ _) rfl ?_
  exact ⟨rfl, hE, Fq.refl _ _⟩
set_option maxRecDepth 100000 in
set_option maxHeartbeats 2000000 in
theorem rtell_in (B r : Nat) (s : ByteArray) (a : Nat) (σ : CS) (c : Int) (x : L) (h0 : 0 ≤ c) (h1 : c ≤ 1000000) (w : World) (hS : RS B w r s a σ) (hB : B ≤ w.heap.size) :
    Calls Tryz.prog 53 #[.pointer (some ⟨r, 0, none⟩), .int .i64 c, .string ⟨x.toArray⟩] w (TelQ B r s a w (tellC σ c x)) := by
  obtain ⟨z, told, m⟩ := σ
  obtain ⟨hbase, hsort, hmany, htold, v, hR, hown⟩ := hS
  have hS := Lib.hid (show RS B w r s a ⟨z, told, m⟩ from ⟨hbase, hsort, hmany, htold, v, hR, hown⟩)
  dsimp only at hsort hmany htold hR hown
  unfold tellC
  dsimp only
  by_cases ht : 4096 ≤ told
  · obtain rfl : told = 4096 := by omega
    rw [if_pos (Nat.le_refl _)]
    obtain ⟨_, _, _, c3, c4, c5, hf⟩ := hR.six
    have HF := Lib.hid (hS.out.fail (k := 6) (by decide))
    clear hR hown
    go_enter Tryz.func53, Tryz.ntmps53
    go_wp2
    go_end0
    exact ⟨rfl, HF.out.1, HF.out.2⟩
  rw [if_neg ht]
  obtain ⟨N, hN⟩ : ∃ N, m.length = N := ⟨_, rfl⟩
  rw [hN] at hmany
  have hN4 : N ≤ 4096 := by omega
  have d4 : ((told : Int) == 4096) = false := by simp; omega
  have q4 : IntKind.i64.wrap ((told : Int) + 1) = (told : Int) + 1 := IntWalk.i64_in _ (by omega)
  obtain ⟨p, q, rfl⟩ := mown_slice hown
  obtain ⟨_, _, _, c3, c4, c5, hf⟩ := hR.six
  obtain ⟨W1, hW1⟩ : ∃ W1, w.setCell ⟨r, 4, none⟩ (.int .i64 ((told : Int) + 1)) = W1 := ⟨_, rfl⟩
  have hR1 : RB W1 r s a z (.slice p m.length q) (told + 1) 0 := by rw [← hW1]; exact hR.set4 (b := told + 1)
  have hown1 : mownS W1 B (.slice p m.length q) m := by rw [← hW1]; exact mown_fq hown (OneB.set _ _ _ _) hR.ne_map
  have F1 := Lib.hid (show Fq B w W1 by rw [← hW1]; exact hR.frame hbase (.set _ _ _ _))
  have hz1 : B ≤ W1.heap.size := by rw [← hW1]; simp [World.setCell]; exact hB
  clear hR hown hS
  go_enter Tryz.func53, Tryz.ntmps53
  go_upto_region 4 with fail
  try rw [hW1]
  clear hW1 c3 c4 c5 hf
  obtain ⟨_, _, _, c3, c4, c5, hf⟩ := hR1.six
  rw [hN] at hR1 hown1 c3
  clear c4
  go_wp2
  go_loopw [6] (fun i wr => ∃ k : Nat, k ≤ N ∧ i = .int .i64 k ∧ wr = W1 ∧ Hid (∀ j (hj : j < m.length), k ≤ j → c < (m[j]).1)) (fun i _ => (intOf i).toNat)
  case atStart => exact ⟨N, Nat.le_refl _, rfl, rfl, Lib.hid (fun j hj h => by omega)⟩
  case round =>
    obtain ⟨K, hKN, rfl, rfl, HGT⟩ := hrel
    by_cases hk0 : K = 0
    · have z0 : decide (0 < K) = false := by simp; omega
      have HLT : Hid (∀ j (hj : j < m.length), j < K → (m[j]).1 < c) := Lib.hid (fun j hj h => by omega)
      clear hk0
      have HIN := Lib.hid (ins_at m c x K (by omega) HLT.out HGT.out)
      have hne := hR1.ne_ownBlock hown1
      have hlt1 := hR1.lt
      go_upto_region 9 with (at_builtin; go_must (refine mappendG rfl _ _ rfl B _ m N hN 0 [] hown1 rfl rfl (by omega) (by omega) ?_); intro g q2 w2 own2 hg2; have hR2 : RB w2 r s a z _ (told + 1) 0 := (hR1.kept (Below.heap_alloc _ _ _ hlt1)).kept (hg2.block r (by simp; omega) hne); obtain ⟨_, _, _, e3, _, _, ef⟩ := hR2.six)
      obtain ⟨W3, hW3⟩ : ∃ W3, w2.setCell ⟨r, 3, none⟩ (.slice (some ⟨g, 0, none⟩) (N + 1) q2) = W3 := ⟨_, rfl⟩
      have hR3 : RB W3 r s a z (.slice (some ⟨g, 0, none⟩) (N + 1) q2) (told + 1) 0 := by rw [← hW3]; exact hR2.set3
      have own3 : mownS W3 B (.slice (some ⟨g, 0, none⟩) (N + 1) q2) (m ++ [(0, [])]) := by rw [← hW3]; exact mown_fq own2 (OneB.set _ _ _ _) hR2.ne_map
      have F3 := Lib.hid (show Fq B w W3 by rw [← hW3]; exact ((F1.out.alloc _).trans (Fq.grown (World.ownsRow.alloc hown1 _) hg2)).trans (hR2.frame hbase (.set _ _ _ _)))
      rw [hW3]
      clear hW3 e3 ef hR2 own2 hg2 c3 c5 hf
      obtain ⟨_, _, _, c3, _, c5, hf⟩ := hR3.six
      have hne3 := hR3.ne_own own3
      clear hR1 hown1 F1 hz1 hne hlt1
      go_wp2
      go_loopw [7] (fun i wr => ∃ (j : Nat) (row : CM), K ≤ j ∧ j ≤ N ∧ i = .int .i64 j ∧ RB wr r s a z (.slice (some ⟨g, 0, none⟩) (N + 1) q2) (told + 1) 0 ∧ mownS wr B (.slice (some ⟨g, 0, none⟩) (N + 1) q2) row ∧ RowJ m j row ∧ Hid (Fq B w wr)) (fun i _ => (intOf i).toNat)
      case atStart => exact ⟨N, _, hKN, Nat.le_refl _, by go_num, hR3, own3, by have := RowJ.start m ((0 : Int), ([] : L)); rw [hN] at this; exact this, F3⟩
      case round =>
        clear hR3 own3 F3 c3 c5 hf
        obtain ⟨j, row, hj1, hj2, rfl, hRr, ownr, HJ, HFr⟩ := hrel
        obtain ⟨_, _, _, c3, _, c5, hf⟩ := hRr.six
        have hlen : row.length = N + 1 := by rw [HJ.1, hN]
        have ff := mown_frozen ownr hlen
        by_cases hjK : K < j
        · obtain ⟨j', rfl⟩ : ∃ j', j = j' + 1 := ⟨j - 1, by omega⟩
          obtain ⟨⟨d, y⟩, hdy⟩ : ∃ e, m[j']? = some e := ⟨_, List.getElem?_eq_getElem (by omega)⟩
          have hget := (HJ.get).trans hdy
          have hjr : j' < row.length := by omega
          have er : row[j'] = (d, y) := by rw [List.getElem?_eq_getElem hjr] at hget; exact Option.some.inj hget
          obtain ⟨l0, l1⟩ := mown_cells ownr hlen j' hjr
          rw [er] at l0 l1
          obtain ⟨s0, s1⟩ := mown_cells ownr hlen (j' + 1) (by omega)
          obtain ⟨⟨d2, y2⟩, hd2⟩ : ∃ e, row[j' + 1]'(by omega) = e := ⟨_, rfl⟩
          rw [hd2] at s0 s1
          dsimp only at l0 l1 s0 s1
          have HST := Lib.hid (HJ.step hdy)
          have HO := Lib.hid (mown_set ownr hlen (j' + 1) (by omega) d y)
          have HRK := Lib.hid (hRr.kept (w' := (wr.setCell ⟨g, (j' + 1) * 2, none⟩ (.int .i64 d)).setCell ⟨g, (j' + 1) * 2 + 1, none⟩ (.string ⟨y.toArray⟩)) ((Below.heap_setCell _ _ _ _ (Ne.symm hne3)).trans (Below.heap_setCell _ _ _ _ (Ne.symm hne3))))
          have HF2 := Lib.hid (HFr.out.trans (Fq.grown ownr (set2_one wr g ((j' + 1) * 2) ((j' + 1) * 2 + 1) (.int .i64 d) (.string ⟨y.toArray⟩))))
          clear hd2 er hget hdy hjr HJ ownr hRr HFr
          have z2 : decide ((K : Int) < (j' : Int) + 1) = true := by simp; omega
          have v1 : (0 : Int) ≤ j' := by omega
          have v2 : (j' : Int) < N + 1 := by omega
          have v3 : (0 : Int) ≤ (j' : Int) + 1 := by omega
          have v4 : (j' : Int) + 1 < N + 1 := by omega
          have v6 : ((j' : Int) + 1).toNat = j' + 1 := by omega
          have v5 := IntWalk.i64_in (j' : Int) ⟨by omega, by omega⟩
          have v7 : (j' : Int) + 1 - 1 = j' := by omega
          have ne2 : ¬ r = g := fun h => hne3 h.symm
          go_upto_region 12 with fail
          go_region
          obtain ⟨w6, hw6⟩ : ∃ w6, (wr.setCell ⟨g, (j' + 1) * 2, none⟩ (.int .i64 d)).setCell ⟨g, (j' + 1) * 2 + 1, none⟩ (.string ⟨y.toArray⟩) = w6 := ⟨_, rfl⟩
          rw [hw6] at HO HRK HF2
          rw [hw6]
          clear hw6 l0 l1 s0 s1 c3 c5 hf ff
          go_wp2
          go_roundw
          case rel => exact ⟨j', row.set (j' + 1) (d, y), by omega, by omega, by go_num, HRK.out, HO.out, HST.out, Lib.hid HF2.out.drew⟩
          case measure => simp [intOf]
        · obtain rfl : j = K := by omega
          obtain ⟨s0, s1⟩ := mown_cells ownr hlen j (by omega)
          obtain ⟨⟨d2, y2⟩, hd2⟩ : ∃ e, row[j]'(by omega) = e := ⟨_, rfl⟩
          rw [hd2] at s0 s1
          dsimp only at s0 s1
          have HO := Lib.hid (mown_set ownr hlen j (by omega) c x)
          rw [HJ.fin (by omega), ← HIN.out] at HO
          have HRK := Lib.hid (hRr.kept (w' := (wr.setCell ⟨g, j * 2, none⟩ (.int .i64 c)).setCell ⟨g, j * 2 + 1, none⟩ (.string ⟨x.toArray⟩)) ((Below.heap_setCell _ _ _ _ (Ne.symm hne3)).trans (Below.heap_setCell _ _ _ _ (Ne.symm hne3))))
          have HF2 := Lib.hid (HFr.out.trans (Fq.grown ownr (set2_one wr g (j * 2) (j * 2 + 1) (.int .i64 c) (.string ⟨x.toArray⟩))))
          have HL := Lib.hid (show (insC m c x).length ≤ told + 1 by rw [HIN.out]; simp; omega)
          clear hd2 HJ ownr hRr HFr
          have v1 : (0 : Int) ≤ j := by omega
          have v2 : (j : Int) < N + 1 := by omega
          have ne2 : ¬ r = g := fun h => hne3 h.symm
          go_wp2
          go_end0
          exact ⟨by first | rfl | trivial, ⟨hbase, insC_sorted m c x hsort, HL.out, by show told + 1 ≤ 4096; omega, _, HRK.out, HO.out⟩, HF2.out⟩
    · obtain ⟨k, rfl⟩ : ∃ k, K = k + 1 := ⟨K - 1, by omega⟩
      clear hk0
      have hkm : k < m.length := by omega
      obtain ⟨g0, rfl⟩ := mown_some hown1 (by omega)
      have l0 := (mown_cells hown1 hN k hkm).1
      have ff := mown_frozen hown1 hN
      have HSO := Lib.hid (List.pairwise_iff_getElem.1 hsort)
      have HOL := Lib.hid (insC_sorted.insC_old m c x hsort)
      obtain ⟨e, he⟩ : ∃ e, (m[k]).1 = e := ⟨_, rfl⟩
      rw [he] at l0
      have HE := Lib.hid he
      clear he
      have z2 : decide ((0 : Int) < (k : Int) + 1) = true := decide_eq_true (by omega)
      have v1 : (0 : Int) ≤ k := by omega
      have v2 : (k : Int) < N := by omega
      have v5 := IntWalk.i64_in (k : Int) ⟨by omega, by omega⟩
      have v7 : (k : Int) + 1 - 1 = k := by omega
      rcases Int.lt_trichotomy e c with hec | hec | hec
      · have HLT : Hid (∀ j (hj : j < m.length), j < k + 1 → (m[j]).1 < c) := Lib.hid (fun j hj h => by
          by_cases hjk : j = k
          · subst hjk; rw [HE.out]; exact hec
          · have := HSO.out j k hj hkm (by omega)
            rw [HE.out] at this; omega)
        have t1 : decide (c ≤ e) = false := by simp; omega
        clear HSO HOL hec
        go_upto_region 8 with fail
        obtain ⟨K, hK⟩ : ∃ K, k + 1 = K := ⟨_, rfl⟩
        rw [hK]
        rw [hK] at HLT HGT hKN
        clear hK l0 ff t1 z2 v1 v2 v5 v7 HE
        have HIN := Lib.hid (ins_at m c x K (by omega) HLT.out HGT.out)
        have hne := hR1.ne_ownBlock hown1
        have hlt1 := hR1.lt
        go_upto_region 9 with (at_builtin; go_must (refine mappendG rfl _ _ rfl B _ m N hN 0 [] hown1 rfl rfl (by omega) (by omega) ?_); intro g q2 w2 own2 hg2; have hR2 : RB w2 r s a z _ (told + 1) 0 := (hR1.kept (Below.heap_alloc _ _ _ hlt1)).kept (hg2.block r (by simp; omega) hne); obtain ⟨_, _, _, e3, _, _, ef⟩ := hR2.six)
        obtain ⟨W3, hW3⟩ : ∃ W3, w2.setCell ⟨r, 3, none⟩ (.slice (some ⟨g, 0, none⟩) (N + 1) q2) = W3 := ⟨_, rfl⟩
        have hR3 : RB W3 r s a z (.slice (some ⟨g, 0, none⟩) (N + 1) q2) (told + 1) 0 := by rw [← hW3]; exact hR2.set3
        have own3 : mownS W3 B (.slice (some ⟨g, 0, none⟩) (N + 1) q2) (m ++ [(0, [])]) := by rw [← hW3]; exact mown_fq own2 (OneB.set _ _ _ _) hR2.ne_map
        have F3 := Lib.hid (show Fq B w W3 by rw [← hW3]; exact ((F1.out.alloc _).trans (Fq.grown (World.ownsRow.alloc hown1 _) hg2)).trans (hR2.frame hbase (.set _ _ _ _)))
        rw [hW3]
        clear hW3 e3 ef hR2 own2 hg2 c3 c5 hf
        obtain ⟨_, _, _, c3, _, c5, hf⟩ := hR3.six
        have hne3 := hR3.ne_own own3
        clear hR1 hown1 F1 hz1 hne hlt1
        go_wp2
        go_loopw [7] (fun i wr => ∃ (j : Nat) (row : CM), K ≤ j ∧ j ≤ N ∧ i = .int .i64 j ∧ RB wr r s a z (.slice (some ⟨g, 0, none⟩) (N + 1) q2) (told + 1) 0 ∧ mownS wr B (.slice (some ⟨g, 0, none⟩) (N + 1) q2) row ∧ RowJ m j row ∧ Hid (Fq B w wr)) (fun i _ => (intOf i).toNat)
        case atStart => exact ⟨N, _, hKN, Nat.le_refl _, by go_num, hR3, own3, by have := RowJ.start m ((0 : Int), ([] : L)); rw [hN] at this; exact this, F3⟩
        case round =>
          clear hR3 own3 F3 c3 c5 hf
          obtain ⟨j, row, hj1, hj2, rfl, hRr, ownr, HJ, HFr⟩ := hrel
          obtain ⟨_, _, _, c3, _, c5, hf⟩ := hRr.six
          have hlen : row.length = N + 1 := by rw [HJ.1, hN]
          have ff := mown_frozen ownr hlen
          by_cases hjK : K < j
          · obtain ⟨j', rfl⟩ : ∃ j', j = j' + 1 := ⟨j - 1, by omega⟩
            obtain ⟨⟨d, y⟩, hdy⟩ : ∃ e, m[j']? = some e := ⟨_, List.getElem?_eq_getElem (by omega)⟩
            have hget := (HJ.get).trans hdy
            have hjr : j' < row.length := by omega
            have er : row[j'] = (d, y) := by rw [List.getElem?_eq_getElem hjr] at hget; exact Option.some.inj hget
            obtain ⟨l0, l1⟩ := mown_cells ownr hlen j' hjr
            rw [er] at l0 l1
            obtain ⟨s0, s1⟩ := mown_cells ownr hlen (j' + 1) (by omega)
            obtain ⟨⟨d2, y2⟩, hd2⟩ : ∃ e, row[j' + 1]'(by omega) = e := ⟨_, rfl⟩
            rw [hd2] at s0 s1
            dsimp only at l0 l1 s0 s1
            have HST := Lib.hid (HJ.step hdy)
            have HO := Lib.hid (mown_set ownr hlen (j' + 1) (by omega) d y)
            have HRK := Lib.hid (hRr.kept (w' := (wr.setCell ⟨g, (j' + 1) * 2, none⟩ (.int .i64 d)).setCell ⟨g, (j' + 1) * 2 + 1, none⟩ (.string ⟨y.toArray⟩)) ((Below.heap_setCell _ _ _ _ (Ne.symm hne3)).trans (Below.heap_setCell _ _ _ _ (Ne.symm hne3))))
            have HF2 := Lib.hid (HFr.out.trans (Fq.grown ownr (set2_one wr g ((j' + 1) * 2) ((j' + 1) * 2 + 1) (.int .i64 d) (.string ⟨y.toArray⟩))))
            clear hd2 er hget hdy hjr HJ ownr hRr HFr
            have z2 : decide ((K : Int) < (j' : Int) + 1) = true := by simp; omega
            have v1 : (0 : Int) ≤ j' := by omega
            have v2 : (j' : Int) < N + 1 := by omega
            have v3 : (0 : Int) ≤ (j' : Int) + 1 := by omega
            have v4 : (j' : Int) + 1 < N + 1 := by omega
            have v6 : ((j' : Int) + 1).toNat = j' + 1 := by omega
            have v5 := IntWalk.i64_in (j' : Int) ⟨by omega, by omega⟩
            have v7 : (j' : Int) + 1 - 1 = j' := by omega
            have ne2 : ¬ r = g := fun h => hne3 h.symm
            go_upto_region 12 with fail
            go_region
            obtain ⟨w6, hw6⟩ : ∃ w6, (wr.setCell ⟨g, (j' + 1) * 2, none⟩ (.int .i64 d)).setCell ⟨g, (j' + 1) * 2 + 1, none⟩ (.string ⟨y.toArray⟩) = w6 := ⟨_, rfl⟩
            rw [hw6] at HO HRK HF2
            rw [hw6]
            clear hw6 l0 l1 s0 s1 c3 c5 hf ff
            go_wp2
            go_roundw
            case rel => exact ⟨j', row.set (j' + 1) (d, y), by omega, by omega, by go_num, HRK.out, HO.out, HST.out, Lib.hid HF2.out.drew⟩
            case measure => simp [intOf]
          · obtain rfl : j = K := by omega
            obtain ⟨s0, s1⟩ := mown_cells ownr hlen j (by omega)
            obtain ⟨⟨d2, y2⟩, hd2⟩ : ∃ e, row[j]'(by omega) = e := ⟨_, rfl⟩
            rw [hd2] at s0 s1
            dsimp only at s0 s1
            have HO := Lib.hid (mown_set ownr hlen j (by omega) c x)
            rw [HJ.fin (by omega), ← HIN.out] at HO
            have HRK := Lib.hid (hRr.kept (w' := (wr.setCell ⟨g, j * 2, none⟩ (.int .i64 c)).setCell ⟨g, j * 2 + 1, none⟩ (.string ⟨x.toArray⟩)) ((Below.heap_setCell _ _ _ _ (Ne.symm hne3)).trans (Below.heap_setCell _ _ _ _ (Ne.symm hne3))))
            have HF2 := Lib.hid (HFr.out.trans (Fq.grown ownr (set2_one wr g (j * 2) (j * 2 + 1) (.int .i64 c) (.string ⟨x.toArray⟩))))
            have HL := Lib.hid (show (insC m c x).length ≤ told + 1 by rw [HIN.out]; simp; omega)
            clear hd2 HJ ownr hRr HFr
            have v1 : (0 : Int) ≤ j := by omega
            have v2 : (j : Int) < N + 1 := by omega
            have ne2 : ¬ r = g := fun h => hne3 h.symm
            go_wp2
            go_end0
            exact ⟨by first | rfl | trivial, ⟨hbase, insC_sorted m c x hsort, HL.out, by show told + 1 ≤ 4096; omega, _, HRK.out, HO.out⟩, HF2.out⟩
      · have t1 : decide (c ≤ e) = true := by simp; omega
        have t2 : (e == c) = true := by simpa using hec
        have HD := Lib.hid (HOL.out (List.any_eq_true.2 ⟨m[k], List.getElem_mem hkm, by rw [HE.out]; exact t2⟩))
        clear HSO HOL hec
        go_wp2
        refine bodyPost_ret (results_none rfl _ _ _) rfl ?_
        exact ⟨by first | rfl | trivial, ⟨hbase, by show (insC m c x).Pairwise _; rw [HD.out]; exact hsort, by show (insC m c x).length ≤ _; rw [HD.out]; show _ ≤ told + 1; omega, by show told + 1 ≤ 4096; omega, _, hR1, by show mownS _ B _ (insC m c x); rw [HD.out]; exact hown1⟩, F1.out⟩
      · have t1 : decide (c ≤ e) = true := by simp; omega
        have t2 : (e == c) = false := by simp; omega
        have HG2 : Hid (∀ j (hj : j < m.length), k ≤ j → c < (m[j]).1) := Lib.hid (fun j hj h => by
          by_cases hjk : j = k
          · subst hjk; rw [HE.out]; exact hec
          · exact HGT.out j hj (by omega))
        clear HSO HOL hec
        go_wp2
        go_roundw
        case rel => exact ⟨k, by omega, by go_num, by trivial, HG2⟩
        case measure => simp [intOf]
end Go.Proofs.YtibffdaljmmdoaaGreatDoor
