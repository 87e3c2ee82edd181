/- Maps of objects, as the dictionary's reader gathers them. -/
import Derived.Test.YtpadlepdgnlgnaaGreatDoorArray
import Derived.Test.YtpadlepdgnlgnaaGreatDoorSortL
import Derived.Test.YtpadlepdgnlgnaaGreatDoorShelfS
import Derived.Maps.RangeWalk
import Derived.Sort.KeysCollected
import Derived.Sort.OwnSorted
set_option linter.all false
namespace Go.Proofs.YtpadlepdgnlgnaaGreatDoor
open Go.RowKit Fo Go.Maps

theorem wordT_short {r : L} {t : Tok} (h : wordT r = .good t) : t.s.length ≤ 32767 := by
  unfold wordT at h
  split at h
  · split at h
    · cases h
    · cases h; simp
  · split at h
    · split at h
      · cases h; simp
      · cases h
      · obtain ⟨rfl, h2⟩ := told_good h; show r.length ≤ _; omega
    · obtain ⟨rfl, h2⟩ := told_good h; show r.length ≤ _; omega
theorem tokT_short {l : L} {t : Tok} (h : tokT l = .good t) : t.s.length ≤ 32767 := by
  cases l with
  | nil => cases h
  | cons c l =>
    unfold tokT at h
    dsimp only at h
    split at h
    · cases h; simp
    · split at h
      · split at h
        · cases h; simp
        · obtain ⟨x, m, h1, rfl, h2⟩ := strOf_good h; exact h2
      · split at h
        · split at h
          · cases h; simp
          · cases h
        · split at h
          · obtain ⟨x, h1, rfl, h2⟩ := nameOf_good h; show x.length ≤ _; omega
          · split at h
            · obtain ⟨x, m, h1, rfl, h2⟩ := strOf_good h; exact h2
            · split at h
              · cases h
              · exact wordT_short h
theorem nextT_short {l : L} {t : Tok} (h : (nextT l).2 = .good t) : t.s.length ≤ 32767 := by
  unfold nextT at h
  simp only at h
  split at h
  · cases h; simp
  · exact tokT_short h
/-- How an object's value reads as a map's element: as itself. -/
def obRL (v : Value) : List Value → Option (DataW Value × List MemPlace)
  | [.int .i64 _, .int .i64 _, .int .i64 _, .string _, .slice _ _ _, .slice _ _ _] => some (.held v, [])
  | _ => none
def obR : Value → Option (DataW Value × List MemPlace)
  | .agg cs => obRL (.agg cs) cs.toList
  | _ => none
structure Obv where
  k : Int
  n : Int
  g : Int
  s : L
  p1 : Option Addr
  n1 : Nat
  c1 : Nat
  p2 : Option Addr
  n2 : Nat
  c2 : Nat
def Obv.val (x : Obv) : Value := .agg #[.int .i64 x.k, .int .i64 x.n, .int .i64 x.g, .string ⟨x.s.toArray⟩, .slice x.p1 x.n1 x.c1, .slice x.p2 x.n2 x.c2]
theorem obR_val (x : Obv) : obR x.val = some (.held x.val, []) := rfl
theorem obRL_inv {v : Value} {cs : List Value} {y : DataW Value × List MemPlace} (h : obRL v cs = some y) : ∃ x : Obv, .agg cs.toArray = x.val ∧ y = (.held v, []) := by
  unfold obRL at h
  split at h
  · rename_i k n g s p1 n1 c1 p2 n2 c2
    cases h
    exact ⟨⟨k, n, g, s.data.toList, p1, n1, c1, p2, n2, c2⟩, rfl, rfl⟩
  · cases h
theorem obR_inv {v : Value} {y : DataW Value × List MemPlace} (h : obR v = some y) : ∃ x : Obv, v = x.val ∧ y = (.held x.val, []) := by
  cases v <;> simp only [obR] at h <;> try (cases h; done)
  obtain ⟨x, h1, h2⟩ := obRL_inv h
  rw [Array.toArray_toList] at h1
  exact ⟨x, h1, by rw [← h1]; exact h2⟩
theorem Tryz.keyed : Keyed Tryz.prog 9 := string_keyed Tryz.underlying9

/-- The datum holds just these entries. -/
structure MapIs (D : DataW Value) (vals : List (L × Obv)) : Prop where
  tidy : Tidy D
  has : ∀ x, Maps.has D (.string x) = vals.any (fun p => p.1 == x)
  size : Maps.size D = vals.length
  at' : ∀ p ∈ vals, ∀ z, D.atKey (.string p.1) z = .held p.2.val
  nodup : (vals.map (·.1)).Nodup
theorem MapIs.nil : MapIs (.map []) [] := ⟨tidy_empty, fun x => rfl, rfl, fun p hp => by simp at hp, List.nodup_nil⟩
theorem MapIs.push {D : DataW Value} {vals : List (L × Obv)} (h : MapIs D vals) (x : L) (v : Obv) (hx : vals.any (fun p => p.1 == x) = false) (hk : WideAt.IsKeyLit (.string x)) :
    MapIs (D.put (.string x) (.held v.val)) (vals ++ [(x, v)]) := by
  have hne : ∀ p ∈ vals, p.1 ≠ x := fun p hp he => by
    have : vals.any (fun p => p.1 == x) = true := List.any_eq_true.2 ⟨p, hp, by simpa using he⟩
    rw [hx] at this; cases this
  refine ⟨h.tidy.put hk _, fun y => ?_, ?_, fun p hp z => ?_, ?_⟩
  · by_cases hy : y = x
    · subst hy
      rw [has_put_same h.tidy.isMap hk]; simp
    · rw [has_put_other (by simpa using hy), h.has y, List.any_append]
      have : ¬ x = y := fun h => hy h.symm
      simp [this]
  · rw [size_put h.tidy, h.has, hx]; simp [h.size]
  · rw [List.mem_append] at hp
    rcases hp with hp | hp
    · rw [atKey_put_other (by simpa using hne p hp)]; exact h.at' p hp z
    · simp only [List.mem_singleton] at hp; subst hp
      exact atKey_put_same h.tidy.isMap hk _ _
  · rw [List.map_append, List.nodup_append]
    refine ⟨h.nodup, by simp, fun a ha b hb => ?_⟩
    obtain ⟨p, hp, rfl⟩ := List.mem_map.1 ha
    simp only [List.map_cons, List.map_nil, List.mem_singleton] at hb
    subst hb; exact hne p hp
theorem isKey_str (x : L) : WideAt.IsKeyLit (.string x) := trivial

/-- What holds at the head of the first loop. -/
structure DInv (s : ByteArray) (m : Int) (d r : Nat) (w : World) (T : Res (List (L × Ob) × L)) (wr : World) (a fuel : Nat) (acc : List (L × Ob)) (vals : List (L × Obv)) (D : DataW Value) : Prop where
  ha : a ≤ s.size
  hr : RdAt wr r s a
  hB0 : wr.heap[w.heap.size]? = some (.cells #[.int .i64 0, .int .i64 0, .int .i64 0, .string ⟨#[]⟩, .slice none 0 0, .slice none 0 0] 26 (0, 0))
  hown : wr.ownsMap Tryz.prog 9 obR (w.heap.size + 1) acc.length D
  hmi : MapIs D vals
  hkeys : vals.map (·.1) = acc.map (·.1)
  hkids : KidsAt (fun b => w.heap.size + 2 ≤ b) (d + 1) wr (vals.map fun p => objCells p.2.k p.2.n p.2.g p.2.s (.slice p.2.p1 p.2.n1 p.2.c1) (.slice p.2.p2 p.2.n2 p.2.c2)) (acc.map (·.2))
  hbes : Bes r w wr
  hm : MaxW wr m
  hlen : acc.length ≤ 8191
  hfu : s.size - a < fuel
  H : dictS (objS d) fuel (s.data.toList.drop a) acc = T
theorem ownMap_bes {w w' : World} {P : Program} {k : TypeId} {R : Value → Option (DataW Value × List MemPlace)} {b n r : Nat} {D : DataW Value} (h : w.ownsMap P k R b n D) (hs : Bes r w w') (hr : b ≠ r) : w'.ownsMap P k R b n D :=
  h.kept (row := some r) ⟨hs.os, hs.tape, hs.output, hs.size, fun k h1 h2 => hs.block k h1 (by intro h; exact h2 (by rw [h]))⟩ (by simpa using hr)
/-- What holds behind the first loop. -/
structure DEnd (s : ByteArray) (m : Int) (d r : Nat) (w : World) (wr : World) (a : Nat) (acc : List (L × Ob)) (vals : List (L × Obv)) (D : DataW Value) : Prop where
  ha : a ≤ s.size
  hr : RdAt wr r s a
  hB0 : wr.heap[w.heap.size]? = some (.cells #[.int .i64 0, .int .i64 0, .int .i64 0, .string ⟨#[]⟩, .slice none 0 0, .slice none 0 0] 26 (0, 0))
  hown : wr.ownsMap Tryz.prog 9 obR (w.heap.size + 1) acc.length D
  hmi : MapIs D vals
  hkeys : vals.map (·.1) = acc.map (·.1)
  hkids : KidsAt (fun b => w.heap.size + 2 ≤ b) (d + 1) wr (vals.map fun p => objCells p.2.k p.2.n p.2.g p.2.s (.slice p.2.p1 p.2.n1 p.2.c1) (.slice p.2.p2 p.2.n2 p.2.c2)) (acc.map (·.2))
  hbes : Bes r w wr
  hm : MaxW wr m
  hlen : acc.length ≤ 8191
theorem DInv.ended {s : ByteArray} {m : Int} {d r : Nat} {w : World} {T : Res (List (L × Ob) × L)} {wr : World} {a fuel : Nat} {acc : List (L × Ob)} {vals : List (L × Obv)} {D : DataW Value}
    (h : DInv s m d r w T wr a fuel acc vals D) (hrw : r < w.heap.size) {w1 : World} {q : Nat} (hs1 : Bes r wr w1) (hR : RdAt w1 r s q) (hq : q ≤ s.size) : DEnd s m d r w w1 q acc vals D := by
  have l0 := h.hbes.size
  have lm := h.hown.lt
  refine ⟨hq, hR, ?_, ownMap_bes h.hown hs1 (by omega), h.hmi, h.hkeys, ?_, h.hbes.trans hs1, h.hm.bes hs1 (h.hm.ne h.hr), h.hlen⟩
  · rw [hs1.block _ (by omega) (by omega)]; exact h.hB0
  · exact h.hkids.grow (fun b h1 h2 => ⟨h1, hs1.block b h2 (by omega)⟩)
theorem any_keys {α β : Type} {l : List (L × α)} {l' : List (L × β)} (h : l.map (·.1) = l'.map (·.1)) (x : L) : l.any (fun p => p.1 == x) = l'.any (fun p => p.1 == x) := by
  have e1 : l.any (fun p => p.1 == x) = (l.map (·.1)).any (· == x) := by rw [List.any_map]; rfl
  have e2 : l'.any (fun p => p.1 == x) = (l'.map (·.1)).any (· == x) := by rw [List.any_map]; rfl
  rw [e1, e2, h]
section
variable {f : Tok → L → Res (Ob × L)} {n : Nat} {l r r2 r3 : L} {acc : List (L × Ob)} {t t2 : Tok} {k : Int} {o : Ob}
theorem dictS_bad (h : nextS l = .bad k) : dictS f (n + 1) l acc = .bad k := by rw [dictS, h]
theorem dictS_end (h : nextS l = .good (t, r)) (hw : (t.kind == 6 && t.s == [62, 62]) = true) : dictS f (n + 1) l acc = .good (acc, r) := by
  rw [dictS, h]; simp only [Bool.and_eq_true, beq_iff_eq] at hw; simp [hw]
theorem dictS_past (h : nextS l = .good (t, r)) (hw : (t.kind == 6 && t.s == [62, 62]) = false) : dictS f (n + 1) l acc =
    (if t.kind ≠ 4 then .bad 3 else if (acc.any fun p => p.1 == t.s) = true then .bad 9 else if 8191 ≤ acc.length then .bad 6 else
        match nextS r with
        | .bad e => .bad e
        | .good (t2, r2) =>
          match f t2 r2 with
          | .bad e => .bad e
          | .good (o, r3) => dictS f n r3 (acc ++ [(t.s, o)])) := by
  rw [dictS, h]
  have : ¬ (t.kind = 6 ∧ t.s = [62, 62]) := by rintro ⟨h1, h2⟩; simp [h1, h2] at hw
  dsimp only
  rw [if_neg this]
  rfl
theorem dictS_kind (h : nextS l = .good (t, r)) (hw : (t.kind == 6 && t.s == [62, 62]) = false) (hk : t.kind ≠ 4) : dictS f (n + 1) l acc = .bad 3 := by rw [dictS_past h hw, if_pos hk]
theorem dictS_twice (h : nextS l = .good (t, r)) (hw : (t.kind == 6 && t.s == [62, 62]) = false) (hk : t.kind = 4) (ha : (acc.any fun p => p.1 == t.s) = true) : dictS f (n + 1) l acc = .bad 9 := by
  rw [dictS_past h hw, if_neg (by omega), if_pos ha]
theorem dictS_many (h : nextS l = .good (t, r)) (hw : (t.kind == 6 && t.s == [62, 62]) = false) (hk : t.kind = 4) (ha : (acc.any fun p => p.1 == t.s) = false) (hl : 8191 ≤ acc.length) : dictS f (n + 1) l acc = .bad 6 := by
  rw [dictS_past h hw, if_neg (by omega), if_neg (by simp [ha]), if_pos hl]
theorem dictS_nbad (h : nextS l = .good (t, r)) (hw : (t.kind == 6 && t.s == [62, 62]) = false) (hk : t.kind = 4) (ha : (acc.any fun p => p.1 == t.s) = false) (hl : ¬ 8191 ≤ acc.length) (h2 : nextS r = .bad k) : dictS f (n + 1) l acc = .bad k := by
  rw [dictS_past h hw, if_neg (by omega), if_neg (by simp [ha]), if_neg hl, h2]
theorem dictS_fbad (h : nextS l = .good (t, r)) (hw : (t.kind == 6 && t.s == [62, 62]) = false) (hk : t.kind = 4) (ha : (acc.any fun p => p.1 == t.s) = false) (hl : ¬ 8191 ≤ acc.length) (h2 : nextS r = .good (t2, r2)) (h3 : f t2 r2 = .bad k) : dictS f (n + 1) l acc = .bad k := by
  rw [dictS_past h hw, if_neg (by omega), if_neg (by simp [ha]), if_neg hl, h2]
  dsimp only; rw [h3]
theorem dictS_more (h : nextS l = .good (t, r)) (hw : (t.kind == 6 && t.s == [62, 62]) = false) (hk : t.kind = 4) (ha : (acc.any fun p => p.1 == t.s) = false) (hl : ¬ 8191 ≤ acc.length) (h2 : nextS r = .good (t2, r2)) (h3 : f t2 r2 = .good (o, r3)) :
    dictS f (n + 1) l acc = dictS f n r3 (acc ++ [(t.s, o)]) := by
  rw [dictS_past h hw, if_neg (by omega), if_neg (by simp [ha]), if_neg hl, h2]
  dsimp only; rw [h3]
end
/-- What the reading of one more value comes to. -/
def DElemPost (s : ByteArray) (d fuel r q : Nat) (x : L) (acc : List (L × Ob)) (T : Res (List (L × Ob) × L)) (w : World) (e : Ending) (w' : World) : Prop :=
  (∃ k, e = .panicked [{ v := .iface 84 (.int .i64 k), recovered := false }] ∧ Hid (T = .bad k) ∧ Bes r w w') ∨
  (∃ (o : Ob) (p1 : Option Addr) (n1 c1 : Nat) (p2 : Option Addr) (n2 c2 z : Nat), e = .returned (.agg #[.int .i64 o.kind, .int .i64 o.n, .int .i64 o.g, .string ⟨o.s.toArray⟩, .slice p1 n1 c1, .slice p2 n2 c2]) ∧ z ≤ s.size ∧ q ≤ z ∧
    Hid (dictS (objS d) fuel (s.data.toList.drop z) (acc ++ [(x, o)]) = T) ∧ ObjAt (fun b => w.heap.size ≤ b) (d + 1) w' (objCells o.kind o.n o.g o.s (.slice p1 n1 c1) (.slice p2 n2 c2)) o ∧ RdAt w' r s z ∧ Bes r w w')
theorem dict_elem (s : ByteArray) (m : Int) (d fuel r a p q q0 : Nat) (acc : List (L × Ob)) (T : Res (List (L × Ob) × L)) (HC : ObjC s m d) (t t2 : Tok) (hn : nextS (s.data.toList.drop a) = .good (t, s.data.toList.drop q0)) (hw : (t.kind == 6 && t.s == [62, 62]) = false)
    (hk4 : t.kind = 4) (hany : (acc.any fun p => p.1 == t.s) = false) (hl : ¬ 8191 ≤ acc.length) (h2 : nextS (s.data.toList.drop q0) = .good (t2, s.data.toList.drop q))
    (hT : Hid (dictS (objS d) (fuel + 1) (s.data.toList.drop a) acc = T)) (hq : q ≤ s.size) (hpq : p + t2.len = q) (hk : t2.kind ≠ 0) (h6 : t2.kind ≤ 6) (h0 : 0 ≤ t2.kind)
    (w : World) (hm : MaxW w m) (hr : RdAt w r s q) :
    Calls Tryz.prog 36 #[.pointer (some ⟨r, 0, none⟩), .agg #[.int .i64 t2.kind, .int .i64 p, .int .i64 q, .int .i64 t2.n, .string ⟨t2.s.toArray⟩], .int .i64 (24 - (d : Int))] w (DElemPost s d fuel r q t.s acc T w) := by
  refine (HC r q p t2 w hq hm hr hpq hk h6 h0).mono ?_
  intro e w' h
  unfold RdPost at h
  cases hf : objS d t2 (s.data.toList.drop q) with
  | bad k =>
    rw [hf] at h
    exact .inl ⟨k, h.1, Lib.hid (hT.out.symm.trans (dictS_fbad hn hw hk4 hany hl h2 hf)), h.2⟩
  | good R =>
    obtain ⟨o, rest⟩ := R
    rw [hf] at h
    obtain ⟨cs, z, rfl, hz1, rfl, hO, hR, hB⟩ := h
    obtain ⟨p1, n1, c1, p2, n2, c2, rfl⟩ := hO.shape
    have hsh := objS_shorter _ _ _ _ _ hf
    simp only [List.length_drop, Array.length_toList, show s.data.size = s.size from rfl] at hsh
    exact .inr ⟨o, p1, n1, c1, p2, n2, c2, z, rfl, hz1, by omega, Lib.hid ((dictS_more hn hw hk4 hany hl h2 hf).symm.trans hT.out), hO, hR, hB⟩
/-- What the token of one more value comes to. -/
def DNextPost (s : ByteArray) (m : Int) (d fuel r q : Nat) (x : L) (acc : List (L × Ob)) (T : Res (List (L × Ob) × L)) (w : World) (e : Ending) (w' : World) : Prop :=
  (∃ k, e = .panicked [{ v := .iface 84 (.int .i64 k), recovered := false }] ∧ Hid (T = .bad k) ∧ Bes r w w') ∨
  (∃ (t2 : Tok) (p2 q2 : Nat), e = .returned (.agg #[.int .i64 t2.kind, .int .i64 p2, .int .i64 q2, .int .i64 t2.n, .string ⟨t2.s.toArray⟩]) ∧ q < q2 ∧ RdAt w' r s q2 ∧ Bes r w w' ∧
    Hid (∀ W, MaxW W m → RdAt W r s q2 → Calls Tryz.prog 36 #[.pointer (some ⟨r, 0, none⟩), .agg #[.int .i64 t2.kind, .int .i64 p2, .int .i64 q2, .int .i64 t2.n, .string ⟨t2.s.toArray⟩], .int .i64 (24 - (d : Int))] W (DElemPost s d fuel r q2 x acc T W)))
theorem dict_next (s : ByteArray) (hs : s.size ≤ 140737488355327) (m : Int) (d fuel r a q : Nat) (acc : List (L × Ob)) (T : Res (List (L × Ob) × L)) (HC : ObjC s m d) (t : Tok) (hn : nextS (s.data.toList.drop a) = .good (t, s.data.toList.drop q)) (hw : (t.kind == 6 && t.s == [62, 62]) = false)
    (hk4 : t.kind = 4) (hany : (acc.any fun p => p.1 == t.s) = false) (hl : ¬ 8191 ≤ acc.length) (hT : Hid (dictS (objS d) (fuel + 1) (s.data.toList.drop a) acc = T)) (hq : q ≤ s.size)
    (w : World) (hm : MaxW w m) (hr : RdAt w r s q) :
    Calls Tryz.prog 37 #[.pointer (some ⟨r, 0, none⟩)] w (DNextPost s m d fuel r q t.s acc T w) := by
  cases h2 : nextS (s.data.toList.drop q) with
  | bad k =>
    refine (rnext_bad r s q k hq hs m w hm hr h2).mono ?_
    rintro e w' ⟨h1, h3⟩
    exact .inl ⟨k, h1, Lib.hid (hT.out.symm.trans (dictS_nbad hn hw hk4 hany hl h2)), h3⟩
  | good tr =>
    obtain ⟨t2, rest⟩ := tr
    obtain ⟨h1, hk, hrest⟩ := nextS_good h2
    obtain ⟨g1, g2, g3, _⟩ := nextT_good h1
    obtain ⟨g5, g6⟩ := nextS_shorter h2
    obtain ⟨p, hp⟩ : ∃ p, q + (nextT (s.data.toList.drop q)).1 = p := ⟨_, rfl⟩
    refine (rnext_good r s q p t2 hq hs m w hm hr h1 hk hp).mono ?_
    rintro e w' ⟨e1, e2, e3⟩
    simp only [List.length_drop, Array.length_toList, show s.data.size = s.size from rfl] at g1
    have hq2 : p + t2.len ≤ s.size := by omega
    rw [List.drop_drop, ← Nat.add_assoc, hp] at hrest
    subst hrest
    have hqa : q < p + t2.len := by simp only [List.length_drop, Array.length_toList, show s.data.size = s.size from rfl] at g5; omega
    exact .inr ⟨t2, p, p + t2.len, e1, hqa, e2, e3, Lib.hid (fun W hW hR => dict_elem s m d fuel r a p (p + t2.len) q acc T HC t t2 hn hw hk4 hany hl h2 hT hq2 rfl hk g3 g2 W hW hR)⟩
/-- What one more pair leaves of the loop's invariant. -/
theorem DInv.step {s : ByteArray} {m : Int} {d r : Nat} {w : World} {T : Res (List (L × Ob) × L)} {wr : World} {a fuel : Nat} {acc : List (L × Ob)} {vals : List (L × Obv)} {D : DataW Value}
    (h : DInv s m d r w T wr a (fuel + 1) acc vals D) (hrw : r < w.heap.size) {w1 w4 w5 : World} {x : L} {o : Ob} {p1 : Option Addr} {n1 c1 : Nat} {p2 : Option Addr} {n2 c2 z : Nat}
    (hs1 : Bes r wr w1) (hs4 : Bes r w1 w4) (hO : ObjAt (fun b => w1.heap.size ≤ b) (d + 1) w4 (objCells o.kind o.n o.g o.s (.slice p1 n1 c1) (.slice p2 n2 c2)) o) (hR4 : RdAt w4 r s z) (hz : z ≤ s.size) (haz : a < z) (hl9 : ¬ 8191 ≤ acc.length)
    (hany : (acc.any fun p => p.1 == x) = false) (hown5 : w5.ownsMap Tryz.prog 9 obR (w.heap.size + 1) (acc.length + 1) (D.put (.string x) (.held (Obv.val ⟨o.kind, o.n, o.g, o.s, p1, n1, c1, p2, n2, c2⟩))))
    (hg : w4.grownBy w5 (some (w.heap.size + 1))) (HX : dictS (objS d) fuel (s.data.toList.drop z) (acc ++ [(x, o)]) = T) :
    DInv s m d r w T w5 z fuel (acc ++ [(x, o)]) (vals ++ [(x, ⟨o.kind, o.n, o.g, o.s, p1, n1, c1, p2, n2, c2⟩)]) (D.put (.string x) (.held (Obv.val ⟨o.kind, o.n, o.g, o.s, p1, n1, c1, p2, n2, c2⟩))) := by
  have l0 := h.hbes.size
  have l1 := hs1.size
  have l4 := hs4.size
  have lm := h.hown.lt
  have hne : r ≠ w.heap.size + 1 := by omega
  have keep : ∀ b, b < w4.heap.size → b ≠ w.heap.size + 1 → w5.heap[b]? = w4.heap[b]? := fun b hb hb2 => hg.block b hb (by simpa using hb2)
  have hmx : MaxW w4 m := (h.hm.bes hs1 (h.hm.ne h.hr)).bes hs4 (h.hm.ne h.hr)
  refine ⟨hz, ?_, ?_, by simpa using hown5, ?_, ?_, ?_, ?_, ?_, by simp; omega, ?_, HX⟩
  · show w5.heap[r]? = _
    rw [keep r (by omega) hne]; exact hR4
  · rw [keep _ (by omega) (by omega), hs4.block _ (by omega) (by omega), hs1.block _ (by omega) (by omega)]; exact h.hB0
  · exact h.hmi.push x _ ((any_keys h.hkeys x).trans hany) (isKey_str x)
  · simp [h.hkeys]
  · rw [List.map_append, List.map_append]
    refine KidsAt.push ?_ rfl ?_
    · refine h.hkids.grow (fun b h1 h2 => ⟨h1, ?_⟩)
      rw [keep b (by omega) (by omega), hs4.block b (by omega) (by omega), hs1.block b h2 (by omega)]
    · exact hO.grow (fun b h1 h2 => ⟨by omega, keep b h2 (by omega)⟩)
  · have h4 := (h.hbes.trans hs1).trans hs4
    exact ⟨hg.os.trans h4.os, hg.tape.trans h4.tape, hg.output.trans h4.output, by have := hg.size; omega, fun b h1 h2 => (keep b (by omega) (by omega)).trans (h4.block b h1 h2)⟩
  · have := MaxW.lt hmx
    unfold MaxW at *
    rw [World.cell?_of_block (keep 0 this (by omega))]; exact hmx
  · have := h.hfu; omega
end Go.Proofs.YtpadlepdgnlgnaaGreatDoor
