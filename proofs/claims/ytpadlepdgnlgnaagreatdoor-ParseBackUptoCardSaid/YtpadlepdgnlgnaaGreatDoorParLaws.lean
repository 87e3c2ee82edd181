/- Plain Lean, no program: the plain parser eats its text. -/
import Derived.Test.YtpadlepdgnlgnaaGreatDoorTokLaws
set_option linter.all false
namespace Fo

theorem wordT_len {r : L} {t : Tok} (hr : r ≠ []) (h : wordT r = .good t) : 1 ≤ t.len := by
  have := (wordT_good h).1
  have := List.length_pos_iff.2 hr
  omega
theorem regN_pos {c : UInt8} {l : L} (h : regular c = true) : 1 ≤ regN (c :: l) := by simp [regN, h]
theorem tokT_pos {l : L} {t : Tok} (hl : ∀ c r, l = c :: r → white c = false ∧ c ≠ 37) (h : tokT l = .good t) : 1 ≤ t.len := by
  cases l with
  | nil => cases h
  | cons c l =>
    obtain ⟨hw, h37⟩ := hl c l rfl
    unfold tokT at h
    dsimp only at h
    split at h
    · cases h; simp
    · rename_i n1
      split at h
      · split at h
        · cases h; simp
        · obtain ⟨x, m, h1, rfl, _⟩ := strOf_good h; simp
      · rename_i n2
        split at h
        · split at h
          · cases h; simp
          · cases h
        · rename_i n3
          split at h
          · obtain ⟨x, h1, rfl, _⟩ := nameOf_good h; simp
          · rename_i n4
            split at h
            · obtain ⟨x, m, h1, rfl, _⟩ := strOf_good h; simp
            · rename_i n5
              split at h
              · cases h
              · rename_i n6
                have hreg : regular c = true := by
                  unfold regular
                  rw [hw]
                  simp only [Bool.not_false, Bool.true_and, Bool.not_eq_true', delim]
                  simp at n1 n2 n3 n4 n5 n6
                  simp [n1, n2, n3, n4, n5, n6, h37]
                have hp := regN_pos (l := l) hreg
                refine wordT_len ?_ h
                intro h0
                have := congrArg List.length h0
                simp at this
                omega
theorem skipN_stop (b : Bool) (l : L) : ∀ c r, l.drop (skipN b l) = c :: r → white c = false ∧ c ≠ 37 := by
  induction l generalizing b with
  | nil => cases b <;> simp [skipN]
  | cons c l ih =>
    cases b
    · simp only [skipN]
      split
      · rw [List.drop_succ_cons]; exact ih true
      · rename_i h37
        split
        · rw [List.drop_succ_cons]; exact ih false
        · rename_i hw
          intro c' r h
          simp only [List.drop_zero, List.cons.injEq] at h
          rw [← h.1]
          exact ⟨by simpa using hw, by simpa using h37⟩
    · simp only [skipN]
      rw [List.drop_succ_cons]; exact ih _
theorem nextS_shorter {l : L} {t : Tok} {r : L} (h : nextS l = .good (t, r)) : r.length < l.length ∧ 1 ≤ t.len := by
  obtain ⟨h1, h2, rfl⟩ := nextS_good h
  have h3 := (nextT_good h1).1
  have h4 : 1 ≤ t.len := by
    unfold nextT at h1
    simp only at h1
    split at h1
    · cases h1; exact absurd rfl h2
    · exact tokT_pos (skipN_stop false l) h1
  rw [List.length_drop]
  omega
theorem refS_shorter {t : Tok} {l : L} {g : Int} {r : L} (h : refS t l = some (g, r)) : r.length ≤ l.length := by
  unfold refS at h
  split at h
  · cases h
  · split at h
    · cases h
    · split at h
      · cases h
      · split at h
        · cases h
        · split at h
          · simp only [Option.some.injEq, Prod.mk.injEq] at h
            rw [← h.2, List.length_drop, List.length_drop]; omega
          · cases h
theorem arrS_shorter {f : Tok → L → Res (Ob × L)} (hf : ∀ t l o r, f t l = .good (o, r) → r.length ≤ l.length) {d : Nat} :
    ∀ {m : Nat} {l : L} {acc ks : List Ob} {r : L}, arrS f d m l acc = .good (ks, r) → r.length ≤ l.length
  | 0, _, _, _, _, h => by cases h
  | m + 1, l, acc, ks, r, h => by
    rw [arrS] at h
    split at h
    · cases h
    · rename_i t r1 h1
      have := (nextS_shorter h1).1
      split at h
      · cases h; omega
      · split at h
        · cases h
        · split at h
          · cases h
          · rename_i o r2 h2
            have h3 := hf _ _ _ _ h2
            have := arrS_shorter hf h
            omega
theorem dictS_shorter {f : Tok → L → Res (Ob × L)} (hf : ∀ t l o r, f t l = .good (o, r) → r.length ≤ l.length) :
    ∀ {m : Nat} {l : L} {acc ks : List (L × Ob)} {r : L}, dictS f m l acc = .good (ks, r) → r.length ≤ l.length
  | 0, _, _, _, _, h => by cases h
  | m + 1, l, acc, ks, r, h => by
    rw [dictS] at h
    split at h
    · cases h
    · rename_i t r1 h1
      have := (nextS_shorter h1).1
      split at h
      · cases h; omega
      · split at h
        · cases h
        · split at h
          · cases h
          · split at h
            · cases h
            · split at h
              · cases h
              · rename_i t2 r2 h2
                have := (nextS_shorter h2).1
                split at h
                · cases h
                · rename_i o r3 h3
                  have := hf _ _ _ _ h3
                  have := dictS_shorter hf h
                  omega
theorem objS_shorter : ∀ (d : Nat) (t : Tok) (l : L) (o : Ob) (r : L), objS d t l = .good (o, r) → r.length ≤ l.length
  | 0, t, l, o, r, h => by
    rw [objS] at h; split at h <;> cases h
  | d + 1, t, l, o, r, h => by
    rw [objS] at h
    split at h
    · split at h
      · split at h
        · rename_i g r' h2
          cases h; exact refS_shorter h2
        · cases h; exact Nat.le_refl _
      · split at h
        · cases h; exact Nat.le_refl _
        · split at h
          · cases h; exact Nat.le_refl _
          · split at h
            · cases h; exact Nat.le_refl _
            · split at h
              · simp only [Res.good.injEq, Prod.mk.injEq] at h; rw [h.2]; exact Nat.le_refl _
              · split at h
                · split at h
                  · cases h
                  · rename_i h2; cases h; exact arrS_shorter (objS_shorter d) h2
                · split at h
                  · cases h
                  · rename_i h2; cases h; exact dictS_shorter (objS_shorter d) h2
    · cases h
end Fo
