/- Plain Lean, no program: what a valid object is; what the parser reads is valid. -/
import Derived.Test.YtpadlepdgnlgnaaGreatDoorParLaws
import Derived.Test.YtpadlepdgnlgnaaGreatDoorSortL
set_option linter.all false
namespace Fo

def zeroB (o : Ob) (n g s list : Bool) : Bool := (n || o.n == 0) && (g || o.g == 0) && (s || o.s.isEmpty) && (list || (o.keys.isEmpty && o.kids.isEmpty))
def nameB (s : L) : Bool := s.all (· != 0) && decide (s.length ≤ 127)
def usesB (o : Ob) : Bool :=
  if o.kind = 0 then zeroB o false false false false
  else if o.kind = 1 ∨ o.kind = 2 ∨ o.kind = 3 then zeroB o true false false false
  else if o.kind = 4 ∨ o.kind = 5 then zeroB o false false true false
  else if o.kind = 6 then zeroB o false false false true && o.keys.isEmpty
  else if o.kind = 7 then zeroB o false false false true
  else if o.kind = 8 then zeroB o true true false false
  else if o.kind = 9 then zeroB o false false true true
  else false
def fitsB (o : Ob) : Bool :=
  if o.kind = 1 then o.n == 0 || o.n == 1
  else if o.kind = 2 then decide (-2147483647 ≤ o.n) && decide (o.n ≤ 2147483647)
  else if o.kind = 3 then decide (-1073741824 ≤ o.n) && decide (o.n ≤ 1073741824)
  else if o.kind = 8 then decide (1 ≤ o.n) && decide (o.n ≤ 8191) && decide (0 ≤ o.g) && decide (o.g ≤ 65535)
  else true
def longB (k : Int) : Nat := if k = 5 then 127 else if k = 9 then 1048576 else 32767
def wLength : L := [76, 101, 110, 103, 116, 104]
/-- The i-th key is a name, lies behind the one ahead of it, is not the stream's own, and its value is not null. -/
def keyAt (o : Ob) (i : Nat) : Bool :=
  nameB (o.keys.getD i []) && (i == 0 || decide (o.keys.getD (i - 1) [] < o.keys.getD i [])) && !(o.keys.getD i [] == wLength && o.kind == 9) && (o.kids.getD i .zero).kind != 0
def keysB (o : Ob) : Bool :=
  if o.kind = 5 then nameB o.s
  else if o.kind ≠ 7 ∧ o.kind ≠ 9 then true
  else o.keys.length == o.kids.length && (List.range o.keys.length).all (keyAt o)
def firstBad (l : List Int) : Int := (l.find? (· != 0)).getD 0
/-- The first reason why an object is not valid, n levels being left. -/
def checkB : Nat → Ob → Int
  | 0, _ => 7
  | n + 1, o =>
    if !usesB o || (o.kind == 9 && n != 23) then 10
    else if !fitsB o then 2
    else if longB o.kind < o.s.length then 5
    else if 8191 < o.kids.length then 6
    else if !keysB o then 3
    else firstBad (o.kids.map (checkB n))

def okO : Nat → Ob → Prop
  | 0, _ => False
  | d + 1, o => usesB o = true ∧ o.kind ≠ 9 ∧ fitsB o = true ∧ o.s.length ≤ longB o.kind ∧ o.kids.length ≤ 8191 ∧ keysB o = true ∧ ∀ k ∈ o.kids, okO d k
theorem firstBad_zero {l : List Int} (h : ∀ x ∈ l, x = 0) : firstBad l = 0 := by
  unfold firstBad
  rw [List.find?_eq_none.2 (fun x hx => by simp [h x hx])]; rfl
theorem okO_check : ∀ (d : Nat) (o : Ob), okO d o → checkB d o = 0
  | 0, _, h => h.elim
  | d + 1, o, h => by
    obtain ⟨h1, h2, h3, h4, h5, h6, h7⟩ := h
    have h2' : (o.kind == 9) = false := by simpa using h2
    unfold checkB
    rw [h1, h2', h3, h6]
    simp only [Bool.not_true, Bool.false_and, Bool.or_self, Bool.false_eq_true, if_false]
    rw [if_neg (by omega), if_neg (by omega)]
    refine firstBad_zero fun x hx => ?_
    obtain ⟨k, hk, rfl⟩ := List.mem_map.1 hx
    exact okO_check d k (h7 k hk)

/-- What is known of a token's number and text. -/
def tokOk (t : Tok) : Prop :=
  (t.kind = 1 → -2147483647 ≤ t.n ∧ t.n ≤ 2147483647) ∧ (t.kind = 2 → -1073741824 ≤ t.n ∧ t.n ≤ 1073741824) ∧ (t.kind = 3 → t.s.length ≤ 32767) ∧ (t.kind = 4 → nameB t.s = true)
theorem wholeV_good {l : L} {n : Int} (h : wholeV l = .good n) : -2147483647 ≤ n ∧ n ≤ 2147483647 := by
  unfold wholeV at h
  split at h
  · cases h
  · cases h; split <;> omega
theorem fixV_good {l : L} {n : Int} (h : fixV l = .good n) : -1073741824 ≤ n ∧ n ≤ 1073741824 := by
  unfold fixV at h
  split at h
  · cases h
  · split at h
    · cases h
    · split at h
      · cases h
      · dsimp only at h
        generalize (if (if minus l then overHalf ((postDot (unsigned l)).drop 4) else atHalf ((postDot (unsigned l)).drop 4)) then val (preDot (unsigned l) ++ part4 (postDot (unsigned l))) + 1 else val (preDot (unsigned l) ++ part4 (postDot (unsigned l)))) = m at h
        by_cases hb : 1073741824 < m
        · rw [if_pos hb] at h; cases h
        · rw [if_neg hb] at h; cases h; split <;> omega
theorem tokOk_other {t : Tok} (h : t.kind ≠ 1 ∧ t.kind ≠ 2 ∧ t.kind ≠ 3 ∧ t.kind ≠ 4) : tokOk t :=
  ⟨fun x => absurd x h.1, fun x => absurd x h.2.1, fun x => absurd x h.2.2.1, fun x => absurd x h.2.2.2⟩
theorem wordT_ok {r : L} {t : Tok} (h : wordT r = .good t) : tokOk t := by
  unfold wordT at h
  split at h
  · split at h
    · cases h
    · rename_i n hn
      cases h
      exact ⟨fun _ => wholeV_good hn, fun h => by simp at h, fun h => by simp at h, fun h => by simp at h⟩
  · split at h
    · split at h
      · rename_i n hn
        cases h
        exact ⟨fun h => by simp at h, fun _ => fixV_good hn, fun h => by simp at h, fun h => by simp at h⟩
      · cases h
      · obtain ⟨rfl, _⟩ := told_good h
        exact tokOk_other (by simp)
    · obtain ⟨rfl, _⟩ := told_good h
      exact tokOk_other (by simp)
theorem hexv_lt (c : UInt8) : hexv c < 16 := by
  unfold hexv digit; split
  · omega
  · split
    · omega
    · split <;> omega
theorem nameS_ok {acc : L} {k : Nat} {l x : L} (h : nameS acc k l = .good x) (ha : ∀ c ∈ acc, c ≠ 0) (hl : ∀ c ∈ l, c ≠ 0) : ∀ c ∈ x, c ≠ 0 := by
  induction l generalizing acc k with
  | nil => cases k <;> simp only [nameS, Res.good.injEq] at h <;> subst h <;> exact ha
  | cons c l ih =>
    have hl' : ∀ c ∈ l, c ≠ 0 := fun c hc => hl c (by simp [hc])
    cases k with
    | succ k => rw [nameS] at h; exact ih h ha hl'
    | zero =>
      by_cases hc : c = 35
      · subst hc
        cases l with
        | nil => simp [nameS] at h
        | cons a l =>
          cases l with
          | nil => simp [nameS] at h
          | cons b l =>
            simp only [nameS, beq_self_eq_true, if_true] at h
            split at h
            · cases h
            · rename_i hab
              refine ih (k := 2) (by rw [nameS, nameS]; exact h) ?_ hl'
              intro c hc
              rw [List.mem_append] at hc
              rcases hc with hc | hc
              · exact ha c hc
              · simp only [List.mem_singleton] at hc
                subst hc
                intro h0
                have h1 := congrArg UInt8.toNat h0
                have e1 := hexv_lt a
                have e2 := hexv_lt b
                simp at h1
                omega
      · have hc2 : (c == 35) = false := by simpa using hc
        simp only [nameS, hc2, Bool.false_eq_true, if_false] at h
        refine ih h ?_ hl'
        intro x hx
        rw [List.mem_append] at hx
        rcases hx with hx | hx
        · exact ha x hx
        · simp only [List.mem_singleton] at hx; subst hx; exact hl x (by simp)
theorem regN_reg (l : L) : ∀ c ∈ l.take (regN l), regular c = true := by
  induction l with
  | nil => simp
  | cons c l ih =>
    unfold regN
    split
    · rename_i h
      intro x hx
      rw [List.take_succ_cons] at hx
      rcases List.mem_cons.1 hx with rfl | hx
      · exact h
      · exact ih x hx
    · simp
theorem regular_ne {c : UInt8} (h : regular c = true) : c ≠ 0 := by
  rintro rfl; revert h; decide
theorem tokT_ok {l : L} {t : Tok} (h : tokT l = .good t) : tokOk t := by
  cases l with
  | nil => cases h
  | cons c l =>
    unfold tokT at h
    dsimp only at h
    split at h
    · cases h; exact tokOk_other (by simp)
    · split at h
      · split at h
        · cases h; exact tokOk_other (by simp)
        · obtain ⟨x, m, h1, rfl, h2⟩ := strOf_good h
          exact ⟨fun h => by simp at h, fun h => by simp at h, fun _ => h2, fun h => by simp at h⟩
      · split at h
        · split at h
          · cases h; exact tokOk_other (by simp)
          · cases h
        · split at h
          · obtain ⟨x, h1, rfl, h2⟩ := nameOf_good h
            refine ⟨fun h => by simp at h, fun h => by simp at h, fun h => by simp at h, fun _ => ?_⟩
            have := nameS_ok h1 (by simp) (fun c hc => regular_ne (regN_reg l c hc))
            simp only [nameB, Bool.and_eq_true, decide_eq_true_eq, List.all_eq_true, bne_iff_ne]
            exact ⟨this, h2⟩
          · split at h
            · obtain ⟨x, m, h1, rfl, h2⟩ := strOf_good h
              exact ⟨fun h => by simp at h, fun h => by simp at h, fun _ => h2, fun h => by simp at h⟩
            · split at h
              · cases h
              · exact wordT_ok h
theorem nextT_ok {l : L} {t : Tok} (h : (nextT l).2 = .good t) : tokOk t := by
  unfold nextT at h
  simp only at h
  split at h
  · cases h; exact tokOk_other (by simp)
  · exact tokT_ok h
theorem nextS_ok {l : L} {t : Tok} {r : L} (h : nextS l = .good (t, r)) : tokOk t := nextT_ok (nextS_good h).1
theorem refS_ok {t : Tok} {l r : L} {g : Int} (h : refS t l = some (g, r)) : 1 ≤ t.n ∧ t.n ≤ 8191 ∧ 0 ≤ g ∧ g ≤ 65535 := by
  unfold refS at h
  split at h
  · cases h
  · split at h
    · cases h
    · split at h
      · cases h
      · split at h
        · cases h
        · split at h
          · simp only [Option.some.injEq, Prod.mk.injEq] at h; omega
          · cases h
theorem arrS_ok {f : Tok → L → Res (Ob × L)} {d : Nat} {p : Ob → Prop} (hf : ∀ t l o r, tokOk t → f t l = .good (o, r) → p o ∧ beginsS t = true ∧ 0 < d) :
    ∀ {m : Nat} {l : L} {acc ks : List Ob} {r : L}, arrS f d m l acc = .good (ks, r) → (∀ o ∈ acc, p o) → acc.length ≤ 8191 → (∀ o ∈ ks, p o) ∧ ks.length ≤ 8191
  | 0, _, _, _, _, h, _, _ => by cases h
  | m + 1, l, acc, ks, r, h, ha, hn => by
    rw [arrS] at h
    split at h
    · cases h
    · rename_i t r1 h1
      split at h
      · cases h; exact ⟨ha, hn⟩
      · split at h
        · cases h
        · rename_i hb
          split at h
          · cases h
          · rename_i o r2 h2
            obtain ⟨g1, g2, g3⟩ := hf _ _ _ _ (nextS_ok h1) h2
            refine arrS_ok hf h ?_ ?_
            · intro x hx
              rw [List.mem_append] at hx
              rcases hx with hx | hx
              · exact ha x hx
              · simp only [List.mem_singleton] at hx; subst hx; exact g1
            · have : ¬ 8191 ≤ acc.length := fun h => hb ⟨g2, g3, h⟩
              simp; omega
/-- What is known of the pairs of a dictionary. -/
def PairsOk (p : Ob → Prop) (ps : List (L × Ob)) : Prop := (ps.map (·.1)).Nodup ∧ ps.length ≤ 8191 ∧ ∀ x ∈ ps, nameB x.1 = true ∧ p x.2
theorem dictS_ok {f : Tok → L → Res (Ob × L)} {p : Ob → Prop} (hf : ∀ t l o r, tokOk t → f t l = .good (o, r) → p o) :
    ∀ {m : Nat} {l : L} {acc ks : List (L × Ob)} {r : L}, dictS f m l acc = .good (ks, r) → PairsOk p acc → PairsOk p ks
  | 0, _, _, _, _, h, _ => by cases h
  | m + 1, l, acc, ks, r, h, ha => by
    rw [dictS] at h
    split at h
    · cases h
    · rename_i t r1 h1
      split at h
      · cases h; exact ha
      · split at h
        · cases h
        · rename_i hk
          split at h
          · cases h
          · rename_i hany
            split at h
            · cases h
            · rename_i hlen
              split at h
              · cases h
              · rename_i t2 r2 h2
                split at h
                · cases h
                · rename_i o r3 h3
                  refine dictS_ok hf h ⟨?_, by simp; omega, ?_⟩
                  · rw [List.map_append, List.nodup_append]
                    refine ⟨ha.1, by simp, ?_⟩
                    intro a hx b hy
                    simp only [List.map_cons, List.map_nil, List.mem_singleton] at hy
                    subst hy
                    rintro rfl
                    apply hany
                    obtain ⟨q, hq, hqe⟩ := List.mem_map.1 hx
                    exact List.any_eq_true.2 ⟨q, hq, by simpa using hqe⟩
                  · intro x hx
                    rw [List.mem_append] at hx
                    rcases hx with hx | hx
                    · exact ha.2.2 x hx
                    · simp only [List.mem_singleton] at hx; subst hx
                      exact ⟨(nextS_ok h1).2.2.2 (by omega), hf _ _ _ _ (nextS_ok h2) h3⟩
theorem find_pair {ps : List (L × Ob)} (hn : (ps.map (·.1)).Nodup) {x : L × Ob} (hx : x ∈ ps) : ps.find? (fun p => p.1 == x.1) = some x := by
  induction ps with
  | nil => cases hx
  | cons y ps ih =>
    rw [List.map_cons, List.nodup_cons] at hn
    rcases List.mem_cons.1 hx with rfl | hx'
    · simp
    · have : y.1 ≠ x.1 := by
        intro he; apply hn.1; rw [he]; exact List.mem_map.2 ⟨x, hx', rfl⟩
      rw [List.find?_cons_of_neg (by simpa using this)]
      exact ih hn.2 hx'
theorem mkDict_ok {d : Nat} {ps : List (L × Ob)} (h : PairsOk (okO d) ps) : okO (d + 1) (mkDict ps) := by
  obtain ⟨hn, hl, hp⟩ := h
  obtain ⟨ks, hks⟩ : ∃ ks, isort ((ps.filter fun p => p.2.kind != 0).map (·.1)) = ks := ⟨_, rfl⟩
  have hperm : ks.Perm ((ps.filter fun p => p.2.kind != 0).map (·.1)) := hks ▸ isort_perm _
  have hsort : ks.Pairwise (· ≤ ·) := hks ▸ isort_sorted _
  have hnd : ks.Nodup := hperm.nodup_iff.2 ((List.filter_sublist.map _).nodup hn)
  have hmem : ∀ k ∈ ks, ∃ x ∈ ps, x.1 = k ∧ x.2.kind ≠ 0 := by
    intro k hk
    obtain ⟨x, hx, rfl⟩ := List.mem_map.1 (hperm.mem_iff.1 hk)
    obtain ⟨h1, h2⟩ := List.mem_filter.1 hx
    exact ⟨x, h1, rfl, by simpa using h2⟩
  have hval : ∀ k ∈ ks, ∃ x ∈ ps, x.1 = k ∧ x.2.kind ≠ 0 ∧ ((ps.find? fun p => p.1 == k).map (·.2)).getD .zero = x.2 := by
    intro k hk
    obtain ⟨x, hx, rfl, h2⟩ := hmem k hk
    exact ⟨x, hx, rfl, h2, by rw [find_pair hn hx]; rfl⟩
  have hlen : ks.length ≤ 8191 := by
    rw [hperm.length_eq, List.length_map]
    exact Nat.le_trans (List.length_filter_le _ _) hl
  have hlt : ∀ i (h : i < ks.length), 0 < i → ks[i - 1] < ks[i] := by
    intro i h h0
    have h1 := List.pairwise_iff_getElem.1 hsort (i - 1) i (by omega) h (by omega)
    have h2 : ks[i - 1] ≠ ks[i] := by
      intro he
      exact absurd he (List.pairwise_iff_getElem.1 hnd (i - 1) i (by omega) h (by omega))
    exact Classical.byContradiction fun h3 => h2 (List.le_antisymm h1 h3)
  unfold mkDict
  rw [hks]
  refine ⟨by simp [usesB, Ob.kind, zeroB, Ob.n, Ob.g, Ob.s], by simp [Ob.kind], by simp [fitsB, Ob.kind], by simp [Ob.s], by simp [Ob.kids]; exact hlen, ?_, ?_⟩
  · unfold keysB
    rw [if_neg (by simp [Ob.kind]), if_neg (by simp [Ob.kind])]
    simp only [Ob.keys, Ob.kids, List.length_map, beq_self_eq_true, Bool.true_and]
    rw [List.all_eq_true]
    intro i hi
    have hi' : i < ks.length := by simpa using hi
    obtain ⟨x, hx, hxk, hx0, hxv⟩ := hval ks[i] (List.getElem_mem hi')
    unfold keyAt
    simp only [Ob.keys, Ob.kids, Ob.kind, List.getD_eq_getElem?_getD, List.getElem?_eq_getElem hi', Option.getD_some, List.getElem?_map, Option.map_some, hxv]
    rw [← hxk, (hp x hx).1]
    have hk0 : (x.2.kind != 0) = true := by simpa using hx0
    have hk9 : ((7 : Int) == 9) = false := by decide
    simp only [Ob.kind] at hk0
    rw [hk9]
    by_cases h0 : i = 0
    · subst h0; simp [hk0]
    · have := hlt i hi' (by omega)
      rw [hxk, List.getElem?_eq_getElem (by omega : i - 1 < ks.length)]
      simp [this, hk0]
  · intro o ho
    simp only [Ob.kids] at ho
    obtain ⟨k, hk, rfl⟩ := List.mem_map.1 ho
    obtain ⟨x, hx, _, _, hxv⟩ := hval k hk
    rw [hxv]; exact (hp x hx).2
theorem objS_good' {d : Nat} {t : Tok} {l : L} {o : Ob} {r : L} (h : objS d t l = .good (o, r)) : beginsS t = true ∧ 0 < d := by
  cases d with
  | zero => rw [objS] at h; split at h <;> cases h
  | succ d => rw [objS] at h; split at h
              · exact ⟨by assumption, by omega⟩
              · cases h
theorem objS_ok : ∀ (d : Nat) (t : Tok) (l : L) (o : Ob) (r : L), tokOk t → objS d t l = .good (o, r) → okO d o
  | 0, t, l, o, r, _, h => by rw [objS] at h; split at h <;> cases h
  | d + 1, t, l, o, r, ht, h => by
    rw [objS] at h
    split at h
    · rename_i hbg
      split at h
      · rename_i hk
        split at h
        · rename_i g r' h2
          cases h
          have := refS_ok h2
          refine ⟨by simp [usesB, Ob.ref, Ob.kind, zeroB, Ob.n, Ob.g, Ob.s, Ob.keys, Ob.kids], by simp [Ob.ref, Ob.kind], ?_, by simp [Ob.ref, Ob.s], by simp [Ob.ref, Ob.kids], by simp [keysB, Ob.ref, Ob.kind], by simp [Ob.ref, Ob.kids]⟩
          simp [fitsB, Ob.ref, Ob.kind, Ob.n, Ob.g, and_assoc]; exact ⟨decide_eq_true this.1, decide_eq_true this.2.1, decide_eq_true this.2.2.1, decide_eq_true this.2.2.2⟩
        · cases h
          have := ht.1 hk
          refine ⟨by simp [usesB, Ob.int, Ob.kind, zeroB, Ob.n, Ob.g, Ob.s, Ob.keys, Ob.kids], by simp [Ob.int, Ob.kind], ?_, by simp [Ob.int, Ob.s], by simp [Ob.int, Ob.kids], by simp [keysB, Ob.int, Ob.kind], by simp [Ob.int, Ob.kids]⟩
          simp [fitsB, Ob.int, Ob.kind, Ob.n]; exact ⟨decide_eq_true this.1, decide_eq_true this.2⟩
      · split at h
        · rename_i hk
          cases h
          have := ht.2.1 hk
          refine ⟨by simp [usesB, Ob.real, Ob.kind, zeroB, Ob.n, Ob.g, Ob.s, Ob.keys, Ob.kids], by simp [Ob.real, Ob.kind], ?_, by simp [Ob.real, Ob.s], by simp [Ob.real, Ob.kids], by simp [keysB, Ob.real, Ob.kind], by simp [Ob.real, Ob.kids]⟩
          simp [fitsB, Ob.real, Ob.kind, Ob.n]; exact ⟨decide_eq_true this.1, decide_eq_true this.2⟩
        · split at h
          · rename_i hk
            cases h
            have := ht.2.2.1 hk
            exact ⟨by simp [usesB, Ob.str, Ob.kind, zeroB, Ob.n, Ob.g, Ob.s, Ob.keys, Ob.kids], by simp [Ob.str, Ob.kind], by simp [fitsB, Ob.str, Ob.kind], by simpa [Ob.str, Ob.s, Ob.kind, longB] using this, by simp [Ob.str, Ob.kids], by simp [keysB, Ob.str, Ob.kind], by simp [Ob.str, Ob.kids]⟩
          · split at h
            · rename_i hk
              cases h
              have := ht.2.2.2 hk
              have h2 : t.s.length ≤ 127 := by simp [nameB] at this; exact this.2
              exact ⟨by simp [usesB, Ob.name, Ob.kind, zeroB, Ob.n, Ob.g, Ob.s, Ob.keys, Ob.kids], by simp [Ob.name, Ob.kind], by simp [fitsB, Ob.name, Ob.kind], by simpa [Ob.name, Ob.s, Ob.kind, longB] using h2, by simp [Ob.name, Ob.kids], by simpa [keysB, Ob.name, Ob.kind, Ob.s] using this, by simp [Ob.name, Ob.kids]⟩
            · split at h
              · simp only [Res.good.injEq, Prod.mk.injEq] at h
                rw [← h.1]
                split
                · exact ⟨by simp [usesB, Ob.zero, Ob.kind, zeroB, Ob.n, Ob.g, Ob.s, Ob.keys, Ob.kids], by simp [Ob.zero, Ob.kind], by simp [fitsB, Ob.zero, Ob.kind], by simp [Ob.zero, Ob.s], by simp [Ob.zero, Ob.kids], by simp [keysB, Ob.zero, Ob.kind], by simp [Ob.zero, Ob.kids]⟩
                · refine ⟨by simp [usesB, Ob.bool, Ob.kind, zeroB, Ob.n, Ob.g, Ob.s, Ob.keys, Ob.kids], by simp [Ob.bool, Ob.kind], ?_, by simp [Ob.bool, Ob.s], by simp [Ob.bool, Ob.kids], by simp [keysB, Ob.bool, Ob.kind], by simp [Ob.bool, Ob.kids]⟩
                  simp [fitsB, Ob.bool, Ob.kind, Ob.n]
                  cases h : t.s == wTrue <;> simp_all
              · split at h
                · split at h
                  · cases h
                  · rename_i ks r2 h2
                    cases h
                    have := arrS_ok (p := okO d) (fun t l o r h1 h2 => ⟨objS_ok d t l o r h1 h2, objS_good' h2⟩) h2 (by simp) (by simp)
                    exact ⟨by simp [usesB, Ob.kind, zeroB, Ob.n, Ob.g, Ob.s, Ob.keys, Ob.kids], by simp [Ob.kind], by simp [fitsB, Ob.kind], by simp [Ob.s], this.2, by simp [keysB, Ob.kind], this.1⟩
                · split at h
                  · cases h
                  · rename_i h2
                    cases h
                    exact mkDict_ok (dictS_ok (p := okO d) (fun t l o r h1 h2 => objS_ok d t l o r h1 h2) h2 ⟨by simp, by simp, by simp⟩)
    · cases h
/-- What is read is valid. -/
theorem readS_ok {l : L} {o : Ob} {r : L} (h : readS l = .good (o, r)) : checkB 24 o = 0 ∧ o.kind ≠ 9 ∧ r.length < l.length := by
  unfold readS at h
  split at h
  · cases h
  · rename_i t r1 h1
    have h2 := objS_ok _ _ _ _ _ (nextS_ok h1) h
    have h3 := (nextS_shorter h1).1
    have h4 := objS_shorter _ _ _ _ _ h
    exact ⟨okO_check _ _ h2, h2.2.1, by omega⟩
end Fo
