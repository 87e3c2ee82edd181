/- Package fix: what its number reader leans on, in plain Lean; cutting at a period. -/
import Derived.Test.YtpadlepdgnlgnaaGreatDoorFixA
set_option linter.all false
namespace Go.Proofs.YtpadlepdgnlgnaaGreatDoor
open Go.RowKit Fo

theorem index_dot (l : L) : (0 ≤ Lib.index l [46] → (l.take (Lib.index l [46]).toNat = preDot l ∧ l.drop ((Lib.index l [46]).toNat + 1) = postDot l)) ∧ (¬ 0 ≤ Lib.index l [46] → preDot l = l ∧ postDot l = []) := by
  rw [Lib.index_one]
  induction l with
  | nil => simp [Lib.indexByte, preDot, postDot]
  | cons c l ih =>
    by_cases h : c = 46
    · subst h; simp [Lib.indexByte, preDot, postDot]
    · have hb : (c == 46) = false := by simpa using h
      have hn : (c != 46) = true := by simpa using h
      have hge := Lib.indexByte_ge l 46
      simp only [Lib.indexByte, hb, Bool.false_eq_true, if_false]
      by_cases h1 : Lib.indexByte l 46 = -1
      · simp only [h1, beq_self_eq_true, if_true]
        have := ih.2 (by omega)
        simp only [preDot, postDot] at *
        rw [List.takeWhile_cons, List.dropWhile_cons, if_pos hn, if_pos hn, this.1, this.2]; simp
      · have h2 : (Lib.indexByte l 46 == -1) = false := by simpa using h1
        simp only [h2, Bool.false_eq_true, if_false]
        have := ih.1 (by omega)
        refine ⟨fun _ => ?_, fun hx => absurd (by omega) hx⟩
        rw [show (Lib.indexByte l 46 + 1).toNat = (Lib.indexByte l 46).toNat + 1 by omega]
        simp only [preDot, postDot] at *
        rw [List.takeWhile_cons, List.dropWhile_cons, if_pos hn, if_pos hn, List.take_succ_cons, List.drop_succ_cons, this.1, this.2]
        simp
theorem cut_dot (l : L) : (Lib.cut l [46]).1 = preDot l ∧ (Lib.cut l [46]).2.1 = postDot l := by
  unfold Lib.cut
  have := index_dot l
  by_cases h : 0 ≤ Lib.index l [46]
  · rw [if_pos h]; exact this.1 h
  · rw [if_neg h]; exact ⟨(this.2 h).1.symm, (this.2 h).2.symm⟩
theorem cutdot_in (s : ByteArray) (a b : L) (ha : preDot s.data.toList = a) (hb : postDot s.data.toList = b) (hs : s.size ≤ 40) (m : Int) (w : World) (hm : MaxW w m) :
    Calls Tryz.prog 111 #[.string s, .string ⟨#[46]⟩] w fun e w' => ∃ f, e = .returned (.tuple #[.string ⟨a.toArray⟩, .string ⟨b.toArray⟩, .bool f]) ∧ ∃ n, w' = w.drewN n := by
  have := Tryz.strings_Cut s ⟨#[46]⟩ m w (by omega) hm
  rw [show (ByteArray.mk #[46]).data.toList = [46] from rfl, (cut_dot _).1, (cut_dot _).2, ha, hb] at this
  exact this.mono fun e w' ⟨h1, h2⟩ => ⟨_, h1, h2⟩

theorem val_append (a b : L) : val (a ++ b) = val a * 10 ^ b.length + val b := by
  have key : ∀ (b : L) (v : Nat), b.foldl (fun v c => 10 * v + (c.toNat - 48)) v = v * 10 ^ b.length + b.foldl (fun v c => 10 * v + (c.toNat - 48)) 0 := by
    intro b
    induction b with
    | nil => simp
    | cons c b ih =>
      intro v
      simp only [List.foldl_cons, List.length_cons]
      rw [ih, ih (10 * 0 + (c.toNat - 48)), Nat.pow_succ]
      generalize c.toNat - 48 = d
      generalize 10 ^ b.length = x
      generalize b.foldl (fun v c => 10 * v + (c.toNat - 48)) 0 = r
      have : (10 * v + d) * x = v * (x * 10) + (10 * 0 + d) * x := by
        rw [Nat.mul_zero, Nat.zero_add, Nat.add_mul, Nat.mul_comm x 10, ← Nat.mul_assoc, Nat.mul_comm v 10]
      omega
  unfold val
  rw [List.foldl_append, key]
theorem val_le_append (a b : L) : val a ≤ val (a ++ b) := by
  rw [val_append]; exact Nat.le_trans (Nat.le_mul_of_pos_right _ (Nat.pow_pos (by decide))) (Nat.le_add_right _ _)

/-- rest > 5, rest >= 5 as texts, rest being what lies postDot the fourth place, its last noughts cut off. -/
def rest (b : L) : L := Lib.trimRightS ((b ++ [48, 48, 48, 48, 48]).drop 4) [48]
theorem trimR_all (l : L) (h : ∀ c ∈ l, c = 48) : Lib.trimRightS l [48] = [] := by
  unfold Lib.trimRightS
  rw [(dropWhile_nil_iff _ _).2 (by rw [List.all_reverse]; simpa using h)]; rfl
theorem trimR_append (l z : L) (h : ∀ c ∈ z, c = 48) : Lib.trimRightS (l ++ z) [48] = Lib.trimRightS l [48] := by
  unfold Lib.trimRightS
  rw [List.reverse_append, List.dropWhile_append_of_pos (by intro c hc; simpa using h c (by simpa using hc))]
theorem rest_eq (b : L) : rest b = Lib.trimRightS (b.drop 4) [48] := by
  unfold rest
  rw [List.drop_append]
  exact trimR_append _ _ (fun c hc => by
    have := List.mem_of_mem_drop hc; simp at this; exact this)
theorem part4_eq (b : L) : (b ++ [48, 48, 48, 48, 48]).take 4 = part4 b := by
  unfold part4
  rw [show ([48, 48, 48, 48, 48] : L) = [48, 48, 48, 48] ++ [48] from rfl, ← List.append_assoc]
  rw [List.take_append_of_le_length (by simp)]

theorem trimR_cons (c : UInt8) (r : L) : Lib.trimRightS (c :: r) [48] = if (c :: r).all (· == 48) then [] else c :: Lib.trimRightS r [48] := by
  by_cases h : (c :: r).all (· == 48)
  · rw [if_pos h]; exact trimR_all _ (fun d hd => by have := List.all_eq_true.1 h d hd; simpa using this)
  · rw [if_neg h]
    unfold Lib.trimRightS
    rw [List.reverse_cons]
    by_cases hr : r.all (· == 48)
    · have hc : ¬ c = 48 := by intro hc; apply h; simp [hc]; simpa using hr
      have h0 : r.reverse.dropWhile (([48] : L).contains ·) = [] := by
        rw [dropWhile_nil_iff, List.all_reverse]
        rw [List.all_eq_true] at *
        intro d hd; have := hr d hd; simp at this; simp [this]
      rw [List.dropWhile_append_of_pos (by
        intro d hd
        have := List.all_eq_true.1 hr d (by simpa using hd)
        simp at this; simp [this]), h0]
      simp [List.dropWhile_cons, hc]
    · have h0 : r.reverse.dropWhile (([48] : L).contains ·) ≠ [] := by
        intro h0
        rw [dropWhile_nil_iff, List.all_reverse] at h0
        apply hr
        rw [List.all_eq_true] at *
        intro d hd; have := h0 d hd; simpa using this
      rw [List.dropWhile_append]
      simp only [List.isEmpty_iff, h0, if_false]
      simp
theorem bytesLess_five (c : UInt8) (r : L) : Op.bytesLess (c :: r) [53] = decide (c < 53) := by
  simp only [Op.bytesLess]
  by_cases h : c < 53
  · simp [h]
  · by_cases h2 : c = 53
    · subst h2; cases r <;> simp [Op.bytesLess]
    · simp [h, h2]
theorem cmp_ge (b : L) (h : b.all isDig = true) : (!Op.bytesLess (rest b) [53]) = atHalf (b.drop 4) := by
  rw [rest_eq]
  have hd : (b.drop 4).all isDig = true := by
    rw [List.all_eq_true] at *; intro c hc; exact h c (List.mem_of_mem_drop hc)
  cases hb : b.drop 4 with
  | nil => simp [Lib.trimRightS, Op.bytesLess, atHalf]
  | cons c r =>
    rw [trimR_cons]
    split
    · rename_i h2
      simp at h2
      simp [Op.bytesLess, atHalf, h2.1]
    · rw [bytesLess_five, Bool.eq_iff_iff]; simp [atHalf, UInt8.lt_iff_toNat_lt, UInt8.le_iff_toNat_le]
theorem cmp_gt (b : L) (h : b.all isDig = true) : (!(Op.bytesLess (rest b) [53] || rest b == [53])) = overHalf (b.drop 4) := by
  rw [rest_eq]
  cases hb : b.drop 4 with
  | nil => simp [Lib.trimRightS, Op.bytesLess, overHalf]
  | cons c r =>
    rw [trimR_cons]
    split
    · rename_i h2
      simp at h2
      have : r.any (· != 48) = false := by rw [List.any_eq_false]; intro d hd; simp [h2.2 d hd]
      simp [Op.bytesLess, overHalf, h2.1]
    · rw [bytesLess_five]
      have key : (Lib.trimRightS r [48] == []) = !(r.any (· != 48)) := by
        rw [Bool.eq_iff_iff]
        unfold Lib.trimRightS
        simp only [beq_iff_eq, List.reverse_eq_nil_iff, dropWhile_nil_iff, List.all_reverse]
        simp
      have e : (c :: Lib.trimRightS r [48] == [53]) = (c == 53 && (Lib.trimRightS r [48] == [])) := rfl
      rw [e, key]
      simp only [overHalf]
      by_cases h1 : c < 53
      · have : ¬ (53 : UInt8) < c := by simp [UInt8.lt_iff_toNat_lt] at *; omega
        have h3 : (c == 53) = false := by simp; rintro rfl; simp at h1
        simp [h1, this, h3]
      · by_cases h2 : c = 53
        · subst h2; simp
        · have : (53 : UInt8) < c := by
            simp [UInt8.lt_iff_toNat_lt] at *
            have : c.toNat ≠ 53 := fun h => h2 (UInt8.toNat_inj.1 h)
            omega
          simp [h1, this, h2]
end Go.Proofs.YtpadlepdgnlgnaaGreatDoor
