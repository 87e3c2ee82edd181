/- Plain Lean, no program: a token's bytes lie in the text; a token that is there has a kind. -/
import Derived.Test.YtpadlepdgnlgnaaGreatDoorObj
set_option linter.all false
namespace Fo

theorem skipN_le' (b : Bool) (l : L) : skipN b l ≤ l.length := by
  induction l generalizing b with
  | nil => cases b <;> simp [skipN]
  | cons c l ih =>
    cases b <;> simp only [skipN, List.length_cons]
    · have h1 := ih true; have h2 := ih false
      split
      · omega
      · split <;> omega
    · have := ih (!eol c); omega
theorem regN_le' (l : L) : regN l ≤ l.length := by
  induction l with
  | nil => simp [regN]
  | cons c l ih => simp only [regN, List.length_cons]; split <;> omega
theorem textS_len {acc : L} {n op k : Nat} {l : L} {x : L} {m : Nat} (h : textS acc n op k l = .good (x, m)) : n + 1 ≤ m ∧ m ≤ n + l.length := by
  induction l generalizing acc n op k with
  | nil => simp [textS] at h
  | cons c l ih =>
    cases k with
    | succ k => rw [textS] at h; have := ih h; simp; omega
    | zero =>
      rw [textS] at h
      simp only [List.length_cons]
      split at h
      · have := ih h; omega
      · split at h
        · split at h
          · cases h
          · have := ih h; omega
        · split at h
          · have := ih h; omega
          · split at h
            · split at h
              · cases h; omega
              · have := ih h; omega
            · have := ih h; omega
theorem hexS_len {acc : L} {n : Nat} {hf : Int} {l : L} {x : L} {m : Nat} (h : hexS acc n hf l = .good (x, m)) : n + 1 ≤ m ∧ m ≤ n + l.length := by
  induction l generalizing acc n hf with
  | nil => simp [hexS] at h
  | cons c l ih =>
    rw [hexS] at h
    simp only [List.length_cons]
    split at h
    · simp only [Res.good.injEq, Prod.mk.injEq] at h; omega
    · split at h
      · have := ih h; omega
      · split at h
        · cases h
        · split at h
          · have := ih h; omega
          · have := ih h; omega
theorem told_good {k : Int} {n : Nat} {x : L} {b : Nat} {t : Tok} (h : told k n x b = .good t) : t = ⟨k, n, 0, x⟩ ∧ x.length ≤ b := by
  unfold told at h; split at h
  · cases h
  · cases h; exact ⟨rfl, by omega⟩
theorem strOf_good {r : Res (L × Nat)} {t : Tok} (h : strOf r = .good t) : ∃ x m, r = .good (x, m) ∧ t = ⟨3, m + 1, 0, x⟩ ∧ x.length ≤ 32767 := by
  cases r with
  | bad e => cases h
  | good x => obtain ⟨h1, h2⟩ := told_good h; exact ⟨x.1, x.2, rfl, h1, h2⟩
theorem nameOf_good {n : Nat} {r : Res L} {t : Tok} (h : nameOf n r = .good t) : ∃ x, r = .good x ∧ t = ⟨4, n + 1, 0, x⟩ ∧ x.length ≤ 127 := by
  cases r with
  | bad e => cases h
  | good x => obtain ⟨h1, h2⟩ := told_good h; exact ⟨x, rfl, h1, h2⟩
theorem wordT_good {r : L} {t : Tok} (h : wordT r = .good t) : t.len = r.length ∧ (t.kind = 1 ∨ t.kind = 2 ∨ t.kind = 5) := by
  unfold wordT at h
  split at h
  · split at h
    · cases h
    · cases h; simp
  · split at h
    · split at h
      · cases h; simp
      · cases h
      · obtain ⟨rfl, _⟩ := told_good h; simp
    · obtain ⟨rfl, _⟩ := told_good h; simp
theorem tokT_good {l : L} {t : Tok} (h : tokT l = .good t) : t.len ≤ l.length ∧ 1 ≤ t.kind ∧ t.kind ≤ 6 := by
  cases l with
  | nil => cases h
  | cons c l =>
    unfold tokT at h
    dsimp only at h
    simp only [List.length_cons]
    split at h
    · cases h; simp
    · split at h
      · split at h
        · rename_i h2
          cases h
          cases l with
          | nil => simp at h2
          | cons => simp
        · obtain ⟨x, m, h1, rfl, _⟩ := strOf_good h
          have := hexS_len h1; simp; omega
      · split at h
        · split at h
          · rename_i h2
            cases h
            cases l with
            | nil => simp at h2
            | cons => simp
          · cases h
        · split at h
          · obtain ⟨x, h1, rfl, _⟩ := nameOf_good h
            have := regN_le' l; simp; omega
          · split at h
            · obtain ⟨x, m, h1, rfl, _⟩ := strOf_good h
              have := textS_len h1; simp; omega
            · split at h
              · cases h
              · obtain ⟨h1, h2⟩ := wordT_good h
                have : ((c :: l).take (regN (c :: l))).length ≤ (c :: l).length := (List.take_sublist _ _).length_le
                simp only [List.length_cons] at this
                rw [h1]; omega
theorem nextT_good {l : L} {t : Tok} (h : (nextT l).2 = .good t) : (nextT l).1 + t.len ≤ l.length ∧ 0 ≤ t.kind ∧ t.kind ≤ 6 ∧ (t.kind = 0 → t = ⟨0, 0, 0, []⟩) := by
  unfold nextT at *
  simp only at *
  have hs := skipN_le' false l
  split at h
  · cases h; simp; exact hs
  · obtain ⟨h1, h2, h3⟩ := tokT_good h
    simp only [List.length_drop] at h1
    exact ⟨by omega, by omega, h3, by omega⟩
theorem nextS_good {l : L} {t : Tok} {r : L} (h : nextS l = .good (t, r)) : (nextT l).2 = .good t ∧ t.kind ≠ 0 ∧ r = l.drop ((nextT l).1 + t.len) := by
  unfold nextS at h
  split at h
  · cases h
  · rename_i t' ht
    split at h
    · cases h
    · cases h; exact ⟨ht, by assumption, rfl⟩
theorem textS_bad {acc : L} {n op k : Nat} {l : L} {e : Int} (h : textS acc n op k l = .bad e) : e = 4 := by
  induction l generalizing acc n op k with
  | nil => cases k <;> simp [textS] at h <;> exact h.symm
  | cons c l ih =>
    cases k with
    | succ k => rw [textS] at h; exact ih h
    | zero =>
      rw [textS] at h
      split at h
      · exact ih h
      · split at h
        · split at h
          · cases h; rfl
          · exact ih h
        · split at h
          · exact ih h
          · split at h
            · split at h
              · cases h
              · exact ih h
            · exact ih h
theorem hexS_bad' {acc : L} {n : Nat} {hf : Int} {l : L} {e : Int} (h : hexS acc n hf l = .bad e) : e = 3 ∨ e = 4 := by
  induction l generalizing acc n hf with
  | nil => simp [hexS] at h; omega
  | cons c l ih =>
    rw [hexS] at h
    split at h
    · cases h
    · split at h
      · exact ih h
      · split at h
        · cases h; simp
        · split at h
          · exact ih h
          · exact ih h
theorem nameS_bad' {acc : L} {k : Nat} {l : L} {e : Int} (h : nameS acc k l = .bad e) : e = 3 := by
  induction l generalizing acc k with
  | nil => cases k <;> simp [nameS] at h
  | cons c l ih =>
    cases k with
    | succ k => rw [nameS] at h; exact ih h
    | zero =>
      by_cases hc : c = 35
      · subst hc
        cases l with
        | nil => simp [nameS] at h; exact h.symm
        | cons a l =>
          cases l with
          | nil => simp [nameS] at h; exact h.symm
          | cons b l =>
            simp only [nameS, beq_self_eq_true, if_true] at h
            split at h
            · cases h; rfl
            · exact ih (k := 2) (by rw [nameS, nameS]; exact h)
      · have hc2 : (c == 35) = false := by simpa using hc
        simp only [nameS, hc2, Bool.false_eq_true, if_false] at h
        exact ih h
theorem told_bad {k : Int} {n : Nat} {x : L} {b : Nat} {e : Int} (h : told k n x b = .bad e) : e = 5 := by
  unfold told at h; split at h
  · cases h; rfl
  · cases h
theorem fixV_bad {l : L} {e : Int} (h : fixV l = .bad e) : e = 2 ∨ e = 3 := by
  unfold fixV at h
  split at h
  · cases h; simp
  · split at h
    · cases h; simp
    · split at h
      · cases h; simp
      · dsimp only at h
        by_cases hb : 1073741824 < (if (if minus l then overHalf ((postDot (unsigned l)).drop 4) else atHalf ((postDot (unsigned l)).drop 4)) then val (preDot (unsigned l) ++ part4 (postDot (unsigned l))) + 1 else val (preDot (unsigned l) ++ part4 (postDot (unsigned l))))
        · rw [if_pos hb] at h; cases h; simp
        · rw [if_neg hb] at h; cases h
theorem wordT_bad {r : L} {e : Int} (h : wordT r = .bad e) : 2 ≤ e ∧ e ≤ 5 := by
  unfold wordT at h
  split at h
  · split at h
    · rename_i e' he
      cases h
      unfold wholeV at he
      split at he
      · cases he; omega
      · cases he
    · cases h
  · split at h
    · split at h
      · cases h
      · cases h; omega
      · have := told_bad h; omega
    · have := told_bad h; omega
theorem strOf_bad {r : Res (L × Nat)} {e : Int} (h : strOf r = .bad e) (hr : ∀ e, r = .bad e → 2 ≤ e ∧ e ≤ 5) : 2 ≤ e ∧ e ≤ 5 := by
  cases r with
  | bad e' => cases h; exact hr _ rfl
  | good x => have := told_bad h; omega
theorem tokT_bad {l : L} {e : Int} (hl : l ≠ []) (h : tokT l = .bad e) : 2 ≤ e ∧ e ≤ 5 := by
  cases l with
  | nil => exact absurd rfl hl
  | cons c l =>
    unfold tokT at h
    dsimp only at h
    split at h
    · cases h
    · split at h
      · split at h
        · cases h
        · exact strOf_bad h (fun e he => by have := hexS_bad' he; omega)
      · split at h
        · split at h
          · cases h
          · cases h; omega
        · split at h
          · unfold nameT at h
            cases hn : nameS [] 0 (l.take (regN l)) with
            | bad e' => rw [hn] at h; cases h; have := nameS_bad' hn; omega
            | good x => rw [hn] at h; have := told_bad h; omega
          · split at h
            · exact strOf_bad h (fun e he => by have := textS_bad he; omega)
            · split at h
              · cases h; omega
              · exact wordT_bad h
theorem nextT_bad {l : L} {e : Int} (h : (nextT l).2 = .bad e) : 2 ≤ e ∧ e ≤ 5 := by
  unfold nextT at h
  simp only at h
  split at h
  · cases h
  · exact tokT_bad (by assumption) h
theorem nextS_bad {l : L} {e : Int} (h : nextS l = .bad e) : (nextT l).2 = .bad e ∨ (e = 4 ∧ (nextT l).2 = .good ⟨0, 0, 0, []⟩) := by
  unfold nextS at h
  split at h
  · rename_i e' he; cases h; exact .inl he
  · rename_i t ht
    split at h
    · rename_i hk
      cases h
      have := (nextT_good ht).2.2.2 hk
      subst this
      exact .inr ⟨rfl, ht⟩
    · cases h
end Fo
