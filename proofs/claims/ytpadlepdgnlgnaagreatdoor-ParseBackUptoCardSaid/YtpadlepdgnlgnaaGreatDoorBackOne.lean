/- Plain Lean, no program: the text of a valid object is read back as that object; its bulk and the length of its text. -/
import Derived.Test.YtpadlepdgnlgnaaGreatDoorValid
set_option linter.all false
/- Plain Lean, no program: the text that foliantref06.Text writes of bytes and numbers, and that it is read back, token by token. -/
namespace Fo

theorem u8_every (p : UInt8 → Bool) (h : (List.range 256).all (fun n => p (UInt8.ofNat n)) = true) (c : UInt8) : p c = true := by
  have := List.all_eq_true.1 h c.toNat (List.mem_range.2 (UInt8.toNat_lt c))
  simpa using this
def alnum (c : UInt8) : Bool := (97 ≤ c && c ≤ 122) || (65 ≤ c && c ≤ 90) || (48 ≤ c && c ≤ 57)
def hexD (n : Nat) : UInt8 := if n < 10 then UInt8.ofNat (48 + n) else UInt8.ofNat (55 + n)
def escC (name : Bool) (c : UInt8) : L :=
  if alnum c then [c] else if name then [35, hexD (c.toNat / 16), hexD (c.toNat % 16)]
  else [92, UInt8.ofNat (48 + c.toNat / 64), UInt8.ofNat (48 + c.toNat / 8 % 8), UInt8.ofNat (48 + c.toNat % 8)]
def escS (name : Bool) : L → L
  | [] => []
  | c :: l => escC name c ++ escS name l

theorem alnum_plain (c : UInt8) (h : alnum c = true) : c ≠ 35 ∧ eol c = false ∧ c ≠ 92 ∧ c ≠ 40 ∧ c ≠ 41 ∧ regular c = true := by
  have := u8_every (fun c => !alnum c || (c != 35 && !eol c && c != 92 && c != 40 && c != 41 && regular c)) (by decide +kernel) c
  rw [h] at this
  simp at this
  obtain ⟨⟨⟨⟨⟨h1, h2⟩, h3⟩, h4⟩, h5⟩, h6⟩ := this
  exact ⟨h1, h2, h3, h4, h5, h6⟩
theorem hexD_val (c : UInt8) : hexv (hexD (c.toNat / 16)) = (c.toNat / 16 : Nat) ∧ hexv (hexD (c.toNat % 16)) = (c.toNat % 16 : Nat) := by
  have := u8_every (fun c => hexv (hexD (c.toNat / 16)) == (c.toNat / 16 : Nat) && hexv (hexD (c.toNat % 16)) == (c.toNat % 16 : Nat)) (by decide +kernel) c
  simpa using this
theorem escC_regular (c : UInt8) : (escC true c).all regular = true :=
  u8_every (fun c => (escC true c).all regular) (by decide +kernel) c
theorem escS_regular (l : L) : ∀ c ∈ escS true l, regular c = true := by
  induction l with
  | nil => intro c h; cases h
  | cons a l ih =>
    intro c h
    rcases List.mem_append.1 h with h | h
    · exact List.all_eq_true.1 (escC_regular a) c h
    · exact ih c h
theorem nameS_esc (acc : L) (c : UInt8) (l : L) (h : c ≠ 0) : nameS acc 0 (escC true c ++ l) = nameS (acc ++ [c]) 0 l := by
  unfold escC
  cases ha : alnum c
  · simp only [Bool.false_eq_true, if_false, if_true]
    obtain ⟨e1, e2⟩ := hexD_val c
    obtain ⟨x, hx⟩ : ∃ x, hexD (c.toNat / 16) = x := ⟨_, rfl⟩
    obtain ⟨y, hy⟩ : ∃ y, hexD (c.toNat % 16) = y := ⟨_, rfl⟩
    rw [hx] at e1
    rw [hy] at e2
    rw [hx, hy]
    have hc : (16 : Int) * hexv x + hexv y = c.toNat := by rw [e1, e2]; omega
    have hn : ¬ (hexv x < 0 ∨ hexv y < 0 ∨ 16 * hexv x + hexv y = 0) := by
      rw [hc, e1, e2]
      have : c.toNat ≠ 0 := fun h0 => h (by apply UInt8.toNat_inj.1; simpa using h0)
      omega
    have hb : UInt8.ofNat ((16 : Int) * hexv x + hexv y).toNat = c := by rw [hc]; simp
    simp only [List.cons_append, List.nil_append, nameS, beq_self_eq_true, if_true, if_neg hn, hb]
  · have := (alnum_plain c ha).1
    simp [nameS, this]
theorem nameS_escS (l : L) : ∀ (acc : L), (∀ c ∈ l, c ≠ 0) → nameS acc 0 (escS true l) = .good (acc ++ l) := by
  induction l with
  | nil => intro acc _; simp [escS, nameS]
  | cons c l ih =>
    intro acc h
    rw [escS, nameS_esc acc c _ (h c (by simp)), ih _ (fun x hx => h x (by simp [hx]))]
    simp
theorem regN_run (x : L) (c : UInt8) (r : L) (hx : ∀ a ∈ x, regular a = true) (hc : regular c = false) : regN (x ++ c :: r) = x.length := by
  induction x with
  | nil => simp [regN, hc]
  | cons a x ih =>
    have h1 := hx a (by simp)
    have h2 := ih (fun b hb => hx b (by simp [hb]))
    simp only [List.cons_append, regN, h1, if_true, h2, List.length_cons]
theorem oct_val (c : UInt8) : octN 3 0 0 [UInt8.ofNat (48 + c.toNat / 64), UInt8.ofNat (48 + c.toNat / 8 % 8), UInt8.ofNat (48 + c.toNat % 8)] = (c.toNat, 3) ∧
    oct (UInt8.ofNat (48 + c.toNat / 64)) = true ∧ oct (UInt8.ofNat (48 + c.toNat / 8 % 8)) = true ∧ oct (UInt8.ofNat (48 + c.toNat % 8)) = true := by
  have := u8_every (fun c => octN 3 0 0 [UInt8.ofNat (48 + c.toNat / 64), UInt8.ofNat (48 + c.toNat / 8 % 8), UInt8.ofNat (48 + c.toNat % 8)] == (c.toNat, 3) &&
    oct (UInt8.ofNat (48 + c.toNat / 64)) && oct (UInt8.ofNat (48 + c.toNat / 8 % 8)) && oct (UInt8.ofNat (48 + c.toNat % 8))) (by decide +kernel) c
  simp only [Bool.and_eq_true, beq_iff_eq] at this
  obtain ⟨⟨⟨h1, h2⟩, h3⟩, h4⟩ := this
  exact ⟨h1, h2, h3, h4⟩
theorem oct_plain (c : UInt8) (h : oct c = true) : c ≠ 110 ∧ c ≠ 114 ∧ c ≠ 116 ∧ c ≠ 98 ∧ c ≠ 102 ∧ eol c = false := by
  have := u8_every (fun c => !oct c || (c != 110 && c != 114 && c != 116 && c != 98 && c != 102 && !eol c)) (by decide +kernel) c
  rw [h] at this
  simp at this
  obtain ⟨⟨⟨⟨⟨h1, h2⟩, h3⟩, h4⟩, h5⟩, h6⟩ := this
  exact ⟨h1, h2, h3, h4, h5, h6⟩
theorem octN_three (a b c : UInt8) (l : L) (ha : oct a = true) (hb : oct b = true) (hc : oct c = true) : octN 3 0 0 (a :: b :: c :: l) = octN 3 0 0 [a, b, c] := by
  simp [octN, ha, hb, hc]
theorem esc_three (c : UInt8) (l : L) : esc (UInt8.ofNat (48 + c.toNat / 64) :: UInt8.ofNat (48 + c.toNat / 8 % 8) :: UInt8.ofNat (48 + c.toNat % 8) :: l) = ([c], 3) := by
  obtain ⟨h1, h2, h3, h4⟩ := oct_val c
  have hp := oct_plain _ h2
  have h5 := octN_three _ _ _ l h2 h3 h4
  rw [h1] at h5
  unfold esc
  simp only [hp.1, hp.2.1, hp.2.2.1, hp.2.2.2.1, hp.2.2.2.2.1, hp.2.2.2.2.2, beq_eq_false_iff_ne.2, Bool.false_eq_true, if_false, ne_eq, not_false_eq_true, h5]
  simp
theorem textS_escC (acc : L) (n op : Nat) (c : UInt8) (l : L) : textS acc n op 0 (escC false c ++ l) = textS (acc ++ [c]) (n + (escC false c).length) op 0 l := by
  unfold escC
  cases ha : alnum c
  · simp only [Bool.false_eq_true, if_false]
    have h5 := esc_three c l
    rw [List.cons_append, List.cons_append, List.cons_append, List.cons_append, List.nil_append, textS]
    rw [if_neg (by decide), if_pos (by decide), if_neg (by simp), h5]
    simp only [textS, List.length_cons, List.length_nil]
  · obtain ⟨_, h2, h3, h4, h5, _⟩ := alnum_plain c ha
    simp [textS, h2, h3, h4, h5]
theorem textS_escS (l : L) : ∀ (acc : L) (n : Nat) (r : L), textS acc n 1 0 (escS false l ++ 41 :: r) = .good (acc ++ l, n + (escS false l).length + 1) := by
  induction l with
  | nil => intro acc n r; simp [escS, textS, eol]
  | cons c l ih =>
    intro acc n r
    rw [escS, List.append_assoc, textS_escC, ih]
    simp; omega
/-- The separators that follow a token. -/
def sep (c : UInt8) : Prop := c = 32 ∨ c = 10
theorem sep_not (c : UInt8) (h : sep c) : regular c = false := by rcases h with rfl | rfl <;> decide
theorem next_name (s : L) (c : UInt8) (r : L) (h0 : ∀ b ∈ s, b ≠ 0) (hl : s.length ≤ 127) (hc : sep c) : nextS (47 :: (escS true s ++ c :: r)) = .good (⟨4, (escS true s).length + 1, 0, s⟩, c :: r) := by
  have h1 := regN_run (escS true s) c r (escS_regular s) (sep_not c hc)
  have h2 : nameT (escS true s ++ c :: r) = .good ⟨4, (escS true s).length + 1, 0, s⟩ := by
    unfold nameT
    rw [h1, List.take_left, nameS_escS s [] h0]
    simp [nameOf, told]; omega
  unfold nextS nextT
  have hs : skipN false (47 :: (escS true s ++ c :: r)) = 0 := by simp [skipN, white]
  rw [hs]
  have ht : tokT (47 :: (escS true s ++ c :: r)) = .good ⟨4, (escS true s).length + 1, 0, s⟩ := by rw [← h2]; simp [tokT]
  simp only [List.drop_zero, reduceCtorEq, if_false, ht]
  simp
theorem next_str (s : L) (c : UInt8) (r : L) (hl : s.length ≤ 32767) : nextS (40 :: (escS false s ++ 41 :: c :: r)) = .good (⟨3, (escS false s).length + 2, 0, s⟩, c :: r) := by
  have h2 : textT (escS false s ++ 41 :: c :: r) = .good ⟨3, (escS false s).length + 2, 0, s⟩ := by
    unfold textT
    rw [textS_escS s [] 0 (c :: r)]
    simp [strOf, told]; omega
  unfold nextS nextT
  have hs : skipN false (40 :: (escS false s ++ 41 :: c :: r)) = 0 := by simp [skipN, white]
  rw [hs]
  have ht : tokT (40 :: (escS false s ++ 41 :: c :: r)) = .good ⟨3, (escS false s).length + 2, 0, s⟩ := by rw [← h2]; simp [tokT]
  simp only [List.drop_zero, reduceCtorEq, if_false, ht]
  simp
theorem regular_plain (c : UInt8) (h : regular c = true) : c ≠ 37 ∧ white c = false ∧ c ≠ 91 ∧ c ≠ 93 ∧ c ≠ 123 ∧ c ≠ 125 ∧ c ≠ 60 ∧ c ≠ 62 ∧ c ≠ 47 ∧ c ≠ 40 ∧ c ≠ 41 := by
  have := u8_every (fun c => !regular c || (c != 37 && !white c && c != 91 && c != 93 && c != 123 && c != 125 && c != 60 && c != 62 && c != 47 && c != 40 && c != 41)) (by decide +kernel) c
  rw [h] at this
  simp at this
  obtain ⟨⟨⟨⟨⟨⟨⟨⟨⟨⟨h1, h2⟩, h3⟩, h4⟩, h5⟩, h6⟩, h7⟩, h8⟩, h9⟩, h10⟩, h11⟩ := this
  exact ⟨h1, h2, h3, h4, h5, h6, h7, h8, h9, h10, h11⟩
theorem next_run (x : L) (c : UInt8) (r : L) (t : Tok) (hx : ∀ a ∈ x, regular a = true) (hne : x ≠ []) (hc : sep c) (ht : wordT x = .good t) : nextS (x ++ c :: r) = .good (t, c :: r) ∧ (nextT (x ++ c :: r)).2 = .good t ∧ (nextT (x ++ c :: r)).1 = 0 := by
  cases x with
  | nil => exact absurd rfl hne
  | cons a x =>
    have h1 := regN_run (a :: x) c r hx (sep_not c hc)
    have ha := regular_plain a (hx a (by simp))
    obtain ⟨g1, g2⟩ := wordT_good ht
    have hs : skipN false (a :: x ++ c :: r) = 0 := by simp [skipN, ha.1, ha.2.1]
    have htk : tokT (a :: x ++ c :: r) = .good t := by
      rw [← ht, List.cons_append, tokT]
      simp only [ha.2.2.1, ha.2.2.2.1, ha.2.2.2.2.1, ha.2.2.2.2.2.1, ha.2.2.2.2.2.2.1, ha.2.2.2.2.2.2.2.1, ha.2.2.2.2.2.2.2.2.1, ha.2.2.2.2.2.2.2.2.2.1, ha.2.2.2.2.2.2.2.2.2.2, beq_eq_false_iff_ne.2, ne_eq, not_false_eq_true, Bool.false_eq_true, Bool.or_self, if_false]
      rw [← List.cons_append, h1, List.take_left]
    have hn : nextT (a :: x ++ c :: r) = (0, .good t) := by
      unfold nextT
      rw [hs]
      simp only [List.drop_zero]
      rw [if_neg (by simp), htk]
    refine ⟨?_, by rw [hn], by rw [hn]⟩
    unfold nextS
    rw [hn]
    dsimp only
    rw [if_neg (by omega), g1, Nat.zero_add, List.drop_left]
end Fo
/- Plain Lean, no program: the decimal texts of numbers are read back as those numbers. -/
namespace Fo

def digU (n : Nat) : L := if n < 10 then [UInt8.ofNat (48 + n)] else digU (n / 10) ++ [UInt8.ofNat (48 + n % 10)]
decreasing_by omega
def digI (n : Int) : L := if n < 0 then 45 :: digU n.natAbs else digU n.natAbs
theorem dig_one (n : Nat) (h : n < 10) : isDig (UInt8.ofNat (48 + n)) = true ∧ (UInt8.ofNat (48 + n)).toNat - 48 = n ∧ sign (UInt8.ofNat (48 + n)) = false ∧ regular (UInt8.ofNat (48 + n)) = true ∧ UInt8.ofNat (48 + n) ≠ 46 := by
  have h2 : n = 0 ∨ n = 1 ∨ n = 2 ∨ n = 3 ∨ n = 4 ∨ n = 5 ∨ n = 6 ∨ n = 7 ∨ n = 8 ∨ n = 9 := by omega
  rcases h2 with rfl | rfl | rfl | rfl | rfl | rfl | rfl | rfl | rfl | rfl <;> decide
theorem val_snoc (l : L) (c : UInt8) : val (l ++ [c]) = 10 * val l + (c.toNat - 48) := by unfold val; rw [List.foldl_append]; rfl
theorem digU_ok (n : Nat) : allDig (digU n) = true ∧ val (digU n) = n ∧ digU n ≠ [] ∧ (∀ c ∈ digU n, regular c = true ∧ c ≠ 46 ∧ sign c = false) := by
  induction n using Nat.strongRecOn with
  | _ n ih =>
    unfold digU
    by_cases h : n < 10
    · rw [if_pos h]
      obtain ⟨h1, h2, h3, h4, h5⟩ := dig_one n h
      refine ⟨by simp only [allDig, List.all_cons, h1]; rfl, by unfold val; simp only [List.foldl_cons, List.foldl_nil, h2]; omega, by simp, ?_⟩
      intro c hc
      simp only [List.mem_singleton] at hc
      subst hc; exact ⟨h4, h5, h3⟩
    · rw [if_neg h]
      obtain ⟨g1, g2, g3, g4⟩ := ih (n / 10) (by omega)
      obtain ⟨h1, h2, h3, h4, h5⟩ := dig_one (n % 10) (by omega)
      refine ⟨?_, ?_, by simp, ?_⟩
      · unfold allDig at *; rw [List.all_append, g1]; simp only [List.all_cons, h1]; rfl
      · rw [val_snoc, g2, h2]; omega
      · intro c hc
        rcases List.mem_append.1 hc with hc | hc
        · exact g4 c hc
        · simp only [List.mem_singleton] at hc; subst hc; exact ⟨h4, h5, h3⟩
theorem unsigned_no {l : L} (h : ∀ c ∈ l, sign c = false) : unsigned l = l := by
  cases l with
  | nil => rfl
  | cons c l => simp [unsigned, h c (by simp)]
theorem minus_no {l : L} (h : ∀ c ∈ l, sign c = false) : minus l = false := by
  cases l with
  | nil => rfl
  | cons c l =>
    have := h c (by simp)
    have h2 : c ≠ 45 := fun h2 => by subst h2; simp [sign] at this
    simp [minus, h2]
theorem digI_ok (n : Int) (h1 : -2147483647 ≤ n) (h2 : n ≤ 2147483647) : wordT (digI n) = .good ⟨1, (digI n).length, n, []⟩ ∧ (∀ c ∈ digI n, regular c = true) ∧ digI n ≠ [] := by
  obtain ⟨g1, g2, g3, g4⟩ := digU_ok n.natAbs
  unfold digI
  by_cases h : n < 0
  · rw [if_pos h]
    have hu : unsigned (45 :: digU n.natAbs) = digU n.natAbs := by simp [unsigned, sign]
    have hi : isInt (45 :: digU n.natAbs) = true := by unfold isInt; rw [hu, g1]; simp [g3]
    have hm : minus (45 :: digU n.natAbs) = true := by simp [minus]
    refine ⟨?_, ?_, by simp⟩
    · unfold wordT wholeV
      rw [if_pos hi, hu, g2, if_neg (by omega), if_pos hm]
      dsimp only
      congr 2; omega
    · intro c hc
      rcases List.mem_cons.1 hc with rfl | hc
      · decide
      · exact (g4 c hc).1
  · rw [if_neg h]
    have hu := unsigned_no (fun c hc => (g4 c hc).2.2)
    have hi : isInt (digU n.natAbs) = true := by unfold isInt; rw [hu, g1]; simp [g3]
    have hm := minus_no (fun c hc => (g4 c hc).2.2)
    refine ⟨?_, fun c hc => (g4 c hc).1, g3⟩
    unfold wordT wholeV
    rw [if_pos hi, hu, g2, if_neg (by omega), hm]
    simp only [Bool.false_eq_true, if_false]
    congr 2; omega
/-- Four digits without the noughts at their end, but at least one. -/
def trim4 (a b c d : Nat) : L :=
  if d ≠ 0 then [UInt8.ofNat (48 + a), UInt8.ofNat (48 + b), UInt8.ofNat (48 + c), UInt8.ofNat (48 + d)]
  else if c ≠ 0 then [UInt8.ofNat (48 + a), UInt8.ofNat (48 + b), UInt8.ofNat (48 + c)]
  else if b ≠ 0 then [UInt8.ofNat (48 + a), UInt8.ofNat (48 + b)] else [UInt8.ofNat (48 + a)]
def fracT (m : Nat) : L := trim4 (m / 1000 % 10) (m / 100 % 10) (m / 10 % 10) (m % 10)
def realU (m : Nat) : L := digU (m / 10000) ++ 46 :: fracT m
def realT (n : Int) : L := if n < 0 then 45 :: realU n.natAbs else realU n.natAbs
theorem fracT_ok (m : Nat) : allDig (fracT m) = true ∧ part4 (fracT m) = [UInt8.ofNat (48 + m / 1000 % 10), UInt8.ofNat (48 + m / 100 % 10), UInt8.ofNat (48 + m / 10 % 10), UInt8.ofNat (48 + m % 10)] ∧ (fracT m).length ≤ 4 ∧ 1 ≤ (fracT m).length ∧ (∀ c ∈ fracT m, regular c = true) := by
  obtain ⟨a1, _, _, a4, _⟩ := dig_one (m / 1000 % 10) (by omega)
  obtain ⟨b1, _, _, b4, _⟩ := dig_one (m / 100 % 10) (by omega)
  obtain ⟨c1, _, _, c4, _⟩ := dig_one (m / 10 % 10) (by omega)
  obtain ⟨d1, _, _, d4, _⟩ := dig_one (m % 10) (by omega)
  unfold fracT trim4
  by_cases hd : m % 10 = 0
  · by_cases hc : m / 10 % 10 = 0
    · by_cases hb : m / 100 % 10 = 0
      · simp only [hd, hc, hb, ne_eq, not_true, if_false]
        exact ⟨by simp only [allDig, List.all_cons, a1]; rfl, by simp [part4], by simp, by simp, by intro x hx; simp only [List.mem_cons, List.not_mem_nil, or_false] at hx; rcases hx with rfl; assumption⟩
      · simp only [hd, hc, hb, ne_eq, not_true, if_false, not_false_eq_true, if_true]
        exact ⟨by simp only [allDig, List.all_cons, a1, b1]; rfl, by simp [part4], by simp, by simp, by intro x hx; simp only [List.mem_cons, List.not_mem_nil, or_false] at hx; rcases hx with rfl | rfl <;> assumption⟩
    · simp only [hd, hc, ne_eq, not_true, if_false, not_false_eq_true, if_true]
      exact ⟨by simp only [allDig, List.all_cons, a1, b1, c1]; rfl, by simp [part4], by simp, by simp, by intro x hx; simp only [List.mem_cons, List.not_mem_nil, or_false] at hx; rcases hx with rfl | rfl | rfl <;> assumption⟩
  · rw [if_pos hd]
    exact ⟨by simp only [allDig, List.all_cons, a1, b1, c1, d1]; rfl, by simp [part4], by simp, by simp, by intro x hx; simp only [List.mem_cons, List.not_mem_nil, or_false] at hx; rcases hx with rfl | rfl | rfl | rfl <;> assumption⟩
theorem digU_len (n : Nat) (k : Nat) (h : n < 10 ^ (k + 1)) : (digU n).length ≤ k + 1 := by
  induction k generalizing n with
  | zero => unfold digU; rw [if_pos (by simpa using h)]; simp
  | succ k ih =>
    unfold digU
    by_cases h1 : n < 10
    · rw [if_pos h1]; simp
    · rw [if_neg h1]
      have := ih (n / 10) (by rw [Nat.pow_succ] at h; omega)
      simp; omega
theorem val_part (l : L) (m : Nat) (h : val l = m / 10000) : val (l ++ [UInt8.ofNat (48 + m / 1000 % 10), UInt8.ofNat (48 + m / 100 % 10), UInt8.ofNat (48 + m / 10 % 10), UInt8.ofNat (48 + m % 10)]) = m := by
  have e : l ++ [UInt8.ofNat (48 + m / 1000 % 10), UInt8.ofNat (48 + m / 100 % 10), UInt8.ofNat (48 + m / 10 % 10), UInt8.ofNat (48 + m % 10)] = (((l ++ [UInt8.ofNat (48 + m / 1000 % 10)]) ++ [UInt8.ofNat (48 + m / 100 % 10)]) ++ [UInt8.ofNat (48 + m / 10 % 10)]) ++ [UInt8.ofNat (48 + m % 10)] := by simp
  rw [e, val_snoc, val_snoc, val_snoc, val_snoc, h, (dig_one (m / 1000 % 10) (by omega)).2.1, (dig_one (m / 100 % 10) (by omega)).2.1, (dig_one (m / 10 % 10) (by omega)).2.1, (dig_one (m % 10) (by omega)).2.1]
  omega
theorem realU_parts (m : Nat) : preDot (realU m) = digU (m / 10000) ∧ postDot (realU m) = fracT m := by
  obtain ⟨_, _, _, g4⟩ := digU_ok (m / 10000)
  have h1 : ∀ c ∈ digU (m / 10000), (c != 46) = true := fun c hc => by simpa using (g4 c hc).2.1
  unfold preDot postDot realU
  constructor
  · rw [List.takeWhile_append_of_pos h1]; simp
  · rw [List.dropWhile_append_of_pos h1]; simp
theorem realT_ok (n : Int) (h1 : -1073741824 ≤ n) (h2 : n ≤ 1073741824) : wordT (realT n) = .good ⟨2, (realT n).length, n, []⟩ ∧ (∀ c ∈ realT n, regular c = true) ∧ realT n ≠ [] := by
  obtain ⟨g1, g2, g3, g4⟩ := digU_ok (n.natAbs / 10000)
  obtain ⟨f1, f2, f3, f4, f5⟩ := fracT_ok n.natAbs
  obtain ⟨p1, p2⟩ := realU_parts n.natAbs
  have hlen := digU_len (n.natAbs / 10000) 7 (by omega)
  have hreg : ∀ c ∈ realU n.natAbs, regular c = true := by
    intro c hc
    unfold realU at hc
    rcases List.mem_append.1 hc with hc | hc
    · exact (g4 c hc).1
    · rcases List.mem_cons.1 hc with rfl | hc
      · decide
      · exact f5 c hc
  have hdot : (realU n.natAbs).contains 46 = true := by unfold realU; simp
  have hlenU : (realU n.natAbs).length ≤ 13 := by unfold realU; simp; omega
  have hint : allDig (realU n.natAbs) = false := by
    unfold realU allDig; rw [List.all_append]; simp [isDig]
  have hne : realU n.natAbs ≠ [] := by unfold realU; simp
  have hval : val (preDot (realU n.natAbs) ++ part4 (postDot (realU n.natAbs))) = n.natAbs := by
    rw [p1, p2, f2]; exact val_part _ _ g2
  have hd4 : (postDot (realU n.natAbs)).drop 4 = [] := by rw [p2]; exact List.drop_eq_nil_of_le f3
  have hok : (preDot (realU n.natAbs) ++ postDot (realU n.natAbs)).isEmpty = false := by rw [p1, p2]; simp [g3]
  have had : (!allDig (preDot (realU n.natAbs)) || !allDig (postDot (realU n.natAbs))) = false := by rw [p1, p2, g1, f1]; rfl
  unfold realT
  by_cases h : n < 0
  · rw [if_pos h]
    have hu : unsigned (45 :: realU n.natAbs) = realU n.natAbs := by simp [unsigned, sign]
    have hm : minus (45 :: realU n.natAbs) = true := by simp [minus]
    have hi : isInt (45 :: realU n.natAbs) = false := by unfold isInt; rw [hu, hint]; simp
    have hf : fixV (45 :: realU n.natAbs) = .good n := by
      unfold fixV
      rw [if_neg (by simp; omega), hu, hok, had, hval, hd4, hm]
      simp only [Bool.false_eq_true, if_false, if_true, overHalf]
      rw [if_neg (by omega)]
      congr 1; omega
    refine ⟨?_, ?_, by simp⟩
    · unfold wordT
      rw [hi, hf]
      have : (45 :: realU n.natAbs).contains 46 = true := by rw [List.contains_cons, hdot]; simp
      rw [this]; simp
    · intro c hc
      rcases List.mem_cons.1 hc with rfl | hc
      · decide
      · exact hreg c hc
  · rw [if_neg h]
    have hs : ∀ c ∈ realU n.natAbs, sign c = false := by
      intro c hc
      unfold realU at hc
      rcases List.mem_append.1 hc with hc | hc
      · exact (g4 c hc).2.2
      · rcases List.mem_cons.1 hc with rfl | hc
        · decide
        · have := List.all_eq_true.1 f1 c hc
          have h3 := u8_every (fun c => !isDig c || !sign c) (by decide +kernel) c
          rw [this] at h3; simpa using h3
    have hu := unsigned_no hs
    have hm := minus_no hs
    have hi : isInt (realU n.natAbs) = false := by unfold isInt; rw [hu, hint]; simp
    have hf : fixV (realU n.natAbs) = .good n := by
      unfold fixV
      rw [if_neg (by omega), hu, hok, had, hval, hd4, hm]
      simp only [Bool.false_eq_true, if_false, atHalf]
      rw [if_neg (by omega)]
      congr 1; omega
    refine ⟨?_, hreg, hne⟩
    unfold wordT
    rw [hi, hf, hdot]; simp
end Fo
/- Plain Lean, no program: the text of a valid object is read back as that object. -/
namespace Fo

def textO : Nat → Ob → L
  | 0, _ => []
  | d + 1, o =>
    if o.kind = 1 then (if o.n = 1 then wTrue else wFalse)
    else if o.kind = 2 then digI o.n
    else if o.kind = 3 then realT o.n
    else if o.kind = 4 then 40 :: (escS false o.s ++ [41])
    else if o.kind = 5 then 47 :: escS true o.s
    else if o.kind = 8 then digI o.n ++ 32 :: (digI o.g ++ [32, 82])
    else if o.kind = 6 then 91 :: (o.kids.flatMap (fun k => textO d k ++ [32]) ++ [93])
    else if o.kind = 7 then 60 :: 60 :: ((o.keys.zip o.kids).flatMap (fun p => 47 :: (escS true p.1 ++ 32 :: (textO d p.2 ++ [32]))) ++ [62, 62])
    else wNull

theorem skip_sep (c : UInt8) (l : L) (hc : sep c) : skipN false (c :: l) = skipN false l + 1 := by
  rcases hc with rfl | rfl <;> simp [skipN, white]
theorem nextT_sep (c : UInt8) (l : L) (hc : sep c) : nextT (c :: l) = ((nextT l).1 + 1, (nextT l).2) := by
  unfold nextT
  rw [skip_sep c l hc]
  simp only [List.drop_succ_cons]
theorem nextS_sep (c : UInt8) (l : L) (hc : sep c) : nextS (c :: l) = nextS l := by
  unfold nextS
  rw [nextT_sep c l hc]
  dsimp only
  cases (nextT l).2 with
  | bad e => rfl
  | good t =>
    dsimp only
    rw [show (nextT l).1 + 1 + t.len = ((nextT l).1 + t.len) + 1 by omega, List.drop_succ_cons]
theorem refS_sep (t : Tok) (c : UInt8) (l : L) (hc : sep c) : refS t (c :: l) = refS t l := by
  unfold refS
  rw [nextT_sep c l hc]
  dsimp only
  by_cases h : t.n < 1 ∨ 8191 < t.n
  · rw [if_pos h, if_pos h]
  · rw [if_neg h, if_neg h]
    cases (nextT l).2 with
    | bad e => rfl
    | good g =>
      dsimp only
      rw [show (nextT l).1 + 1 + g.len = ((nextT l).1 + g.len) + 1 by omega, List.drop_succ_cons]
theorem arrS_sep (f : Tok → L → Res (Ob × L)) (d m : Nat) (c : UInt8) (l : L) (acc : List Ob) (hc : sep c) : arrS f d m (c :: l) acc = arrS f d m l acc := by
  cases m with
  | zero => rfl
  | succ m => rw [arrS, arrS, nextS_sep c l hc]
theorem dictS_sep (f : Tok → L → Res (Ob × L)) (m : Nat) (c : UInt8) (l : L) (acc : List (L × Ob)) (hc : sep c) : dictS f m (c :: l) acc = dictS f m l acc := by
  cases m with
  | zero => rfl
  | succ m => rw [dictS, dictS, nextS_sep c l hc]
/-- The next token is not R. -/
def fol (r : L) : Prop := ∀ t, (nextT r).2 = .good t → ¬ (t.kind = 5 ∧ t.s = [82])
/-- No reference goes on here. -/
def fre (r : L) : Prop := ∀ t, refS t r = none
theorem fol_sep {c : UInt8} {r : L} (hc : sep c) (h : fol r) : fol (c :: r) := by
  intro t ht; rw [nextT_sep c r hc] at ht; exact h t ht
theorem fre_sep {c : UInt8} {r : L} (hc : sep c) (h : fre r) : fre (c :: r) := fun t => by rw [refS_sep t c r hc]; exact h t
theorem fol_of {r l : L} {t : Tok} (h : nextS r = .good (t, l)) (hk : ¬ (t.kind = 5 ∧ t.s = [82])) : fol r := by
  intro t' ht
  have := (nextS_good h).1
  rw [ht] at this; cases this; exact hk
theorem fre_of {r l : L} {t : Tok} (h : nextS r = .good (t, l)) (hk : t.kind ≠ 1) : fre r := by
  intro u
  have h2 := (nextS_good h).1
  unfold refS
  split
  · rfl
  · rw [h2]; dsimp only; rw [if_pos (.inl hk)]
theorem fre_int {r l : L} {t : Tok} (h : nextS r = .good (t, l)) (hf : fol l) : fre r := by
  intro u
  obtain ⟨h2, _, h3⟩ := nextS_good h
  unfold refS
  split
  · rfl
  · rw [h2]
    dsimp only
    split
    · rfl
    · rw [← h3]
      cases hn : (nextT l).2 with
      | bad e => rfl
      | good w => dsimp only; rw [if_neg (hf w hn)]
theorem fol_nil : fol [] := by
  intro t ht
  have : (nextT []).2 = .good ⟨0, 0, 0, []⟩ := rfl
  rw [this] at ht; cases ht; simp
theorem fre_nil : fre [] := by
  intro t
  have : (nextT []).2 = .good ⟨0, 0, 0, []⟩ := rfl
  unfold refS
  split
  · rfl
  · rw [this]; dsimp only; rw [if_pos (.inl (by decide))]
theorem next_mark1 (c : UInt8) (l : L) (h : c = 91 ∨ c = 93) : nextS (c :: l) = .good (⟨6, 1, 0, [c]⟩, l) := by
  rcases h with rfl | rfl
  · have h1 : skipN false (91 :: l) = 0 := by simp [skipN, white]
    unfold nextS nextT; rw [h1]; simp [tokT]
  · have h1 : skipN false (93 :: l) = 0 := by simp [skipN, white]
    unfold nextS nextT; rw [h1]; simp [tokT]
theorem next_mark2 (c : UInt8) (l : L) (h : c = 60 ∨ c = 62) : nextS (c :: c :: l) = .good (⟨6, 2, 0, [c, c]⟩, l) := by
  rcases h with rfl | rfl
  · have h1 : skipN false (60 :: 60 :: l) = 0 := by simp [skipN, white]
    unfold nextS nextT; rw [h1]; simp [tokT]
  · have h1 : skipN false (62 :: 62 :: l) = 0 := by simp [skipN, white]
    unfold nextS nextT; rw [h1]; simp [tokT]
theorem next_word (x : L) (c : UInt8) (r : L) (h : x = wTrue ∨ x = wFalse ∨ x = wNull ∨ x = [82]) (hc : sep c) : nextS (x ++ c :: r) = .good (⟨5, x.length, 0, x⟩, c :: r) := by
  rcases h with rfl | rfl | rfl | rfl
  · exact (next_run wTrue c r _ (by decide) (by decide) hc rfl).1
  · exact (next_run wFalse c r _ (by decide) (by decide) hc rfl).1
  · exact (next_run wNull c r _ (by decide) (by decide) hc rfl).1
  · exact (next_run [82] c r _ (by decide) (by decide) hc rfl).1
theorem next_int (n : Int) (h1 : -2147483647 ≤ n) (h2 : n ≤ 2147483647) (c : UInt8) (r : L) (hc : sep c) : nextS (digI n ++ c :: r) = .good (⟨1, (digI n).length, n, []⟩, c :: r) := by
  obtain ⟨g1, g2, g3⟩ := digI_ok n h1 h2
  exact (next_run _ c r _ g2 g3 hc g1).1
theorem next_real (n : Int) (h1 : -1073741824 ≤ n) (h2 : n ≤ 1073741824) (c : UInt8) (r : L) (hc : sep c) : nextS (realT n ++ c :: r) = .good (⟨2, (realT n).length, n, []⟩, c :: r) := by
  obtain ⟨g1, g2, g3⟩ := realT_ok n h1 h2
  exact (next_run _ c r _ g2 g3 hc g1).1
/-- The fields of a valid object, kind by kind. -/
theorem okO_kinds {d : Nat} {k n g : Int} {s : L} {ks : List L} {cs : List Ob} (h : okO (d + 1) (.mk k n g s ks cs)) :
    (k = 0 ∧ n = 0 ∧ g = 0 ∧ s = [] ∧ ks = [] ∧ cs = []) ∨ (k = 1 ∧ (n = 0 ∨ n = 1) ∧ g = 0 ∧ s = [] ∧ ks = [] ∧ cs = []) ∨ (k = 2 ∧ (-2147483647 ≤ n ∧ n ≤ 2147483647) ∧ g = 0 ∧ s = [] ∧ ks = [] ∧ cs = []) ∨
    (k = 3 ∧ (-1073741824 ≤ n ∧ n ≤ 1073741824) ∧ g = 0 ∧ s = [] ∧ ks = [] ∧ cs = []) ∨ (k = 4 ∧ n = 0 ∧ g = 0 ∧ s.length ≤ 32767 ∧ ks = [] ∧ cs = []) ∨
    (k = 5 ∧ n = 0 ∧ g = 0 ∧ nameB s = true ∧ ks = [] ∧ cs = []) ∨ (k = 8 ∧ (1 ≤ n ∧ n ≤ 8191 ∧ 0 ≤ g ∧ g ≤ 65535) ∧ s = [] ∧ ks = [] ∧ cs = []) ∨
    (k = 6 ∧ n = 0 ∧ g = 0 ∧ s = [] ∧ ks = []) ∨ (k = 7 ∧ n = 0 ∧ g = 0 ∧ s = [] ∧ keysB (.mk 7 n g s ks cs) = true) := by
  obtain ⟨h1, h2, h3, h4, h5, h6, h7⟩ := h
  unfold usesB zeroB at h1
  unfold fitsB at h3
  unfold longB at h4
  simp only [Ob.kind, Ob.n, Ob.g, Ob.s, Ob.keys, Ob.kids] at h1 h2 h3 h4 h5 h6 h7
  by_cases k0 : k = 0
  · subst k0; simp at h1; left; simp [h1]
  right
  by_cases k1 : k = 1
  · subst k1; simp at h1 h3; left; simp [h1, h3]
  right
  by_cases k2 : k = 2
  · subst k2; simp at h1 h3; left; simp [h1]; exact ⟨of_decide_eq_true h3.1, of_decide_eq_true h3.2⟩
  right
  by_cases k3 : k = 3
  · subst k3; simp at h1 h3; left; simp [h1]; exact ⟨of_decide_eq_true h3.1, of_decide_eq_true h3.2⟩
  right
  by_cases k4 : k = 4
  · subst k4; simp at h1 h4; left; simp [h1, h4]
  right
  by_cases k5 : k = 5
  · subst k5; simp at h1; left; unfold keysB at h6; simp [Ob.kind, Ob.s] at h6; simp [h1, h6]
  right
  by_cases k8 : k = 8
  · subst k8; simp at h1 h3; left; simp [h1]; exact ⟨of_decide_eq_true h3.1.1.1, of_decide_eq_true h3.1.1.2, of_decide_eq_true h3.1.2, of_decide_eq_true h3.2⟩
  right
  by_cases k6 : k = 6
  · subst k6; simp at h1; left; simp [h1]
  right
  by_cases k7 : k = 7
  · subst k7; simp at h1; simp [h1, h6]; simpa [h1] using h6
  simp [k0, k1, k2, k3, k4, k5, k6, k7, k8, h2] at h1

theorem sep32 : sep 32 := .inl rfl
def kidsT (d : Nat) (cs : List Ob) : L := cs.flatMap (fun k => textO d k ++ [32])
theorem kidsT_cons (d : Nat) (k : Ob) (cs : List Ob) (r : L) : kidsT d (k :: cs) ++ r = textO d k ++ 32 :: (kidsT d cs ++ r) := by simp [kidsT]
def pairsT (d : Nat) (ps : List (L × Ob)) : L := ps.flatMap (fun p => 47 :: (escS true p.1 ++ 32 :: (textO d p.2 ++ [32])))
theorem pairsT_cons (d : Nat) (p : L × Ob) (ps : List (L × Ob)) (r : L) : pairsT d (p :: ps) ++ r = 47 :: (escS true p.1 ++ 32 :: (textO d p.2 ++ 32 :: (pairsT d ps ++ r))) := by simp [pairsT]
theorem nameB_ne {s : L} (h : nameB s = true) : (∀ b ∈ s, b ≠ 0) ∧ s.length ≤ 127 := by
  unfold nameB at h
  simp only [Bool.and_eq_true, List.all_eq_true, decide_eq_true_eq] at h
  exact ⟨fun b hb => by simpa using h.1 b hb, h.2⟩
/-- The first token of an object's text. -/
theorem first_tok {d : Nat} {o : Ob} (h : okO (d + 1) o) (c : UInt8) (r : L) (hc : sep c) :
    ∃ t l, nextS (textO (d + 1) o ++ c :: r) = .good (t, l) ∧ beginsS t = true ∧ ¬ (t.kind = 6 ∧ t.s = [93]) ∧ ¬ (t.kind = 5 ∧ t.s = [82]) ∧
      ((o.kind = 2 ∧ t.kind = 1 ∧ t.n = o.n ∧ l = c :: r ∧ o = .int o.n) ∨ (o.kind = 8 ∧ t.kind = 1 ∧ t.n = o.n ∧ l = 32 :: (digI o.g ++ 32 :: 82 :: c :: r) ∧ o = .ref o.n o.g ∧ 1 ≤ o.n ∧ o.n ≤ 8191 ∧ 0 ≤ o.g ∧ o.g ≤ 65535) ∨
       (t.kind ≠ 1 ∧ o.kind ≠ 2 ∧ ((l = c :: r ∧ ∀ e, objS (e + 1) t l = .good (o, l)) ∨ (o.kind = 6 ∧ t.kind = 6 ∧ t.s = [91] ∧ l = kidsT d o.kids ++ 93 :: c :: r ∧ o = .mk 6 0 0 [] [] o.kids) ∨
          (o.kind = 7 ∧ t.kind = 6 ∧ t.s = [60, 60] ∧ l = pairsT d (o.keys.zip o.kids) ++ 62 :: 62 :: c :: r ∧ o = .mk 7 0 0 [] o.keys o.kids ∧ keysB o = true)))) := by
  cases o with
  | mk k n g s ks cs =>
    rcases okO_kinds h with ⟨rfl, rfl, rfl, rfl, rfl, rfl⟩ | ⟨rfl, hn, rfl, rfl, rfl, rfl⟩ | ⟨rfl, hn, rfl, rfl, rfl, rfl⟩ | ⟨rfl, hn, rfl, rfl, rfl, rfl⟩ | ⟨rfl, rfl, rfl, hs, rfl, rfl⟩ | ⟨rfl, rfl, rfl, hs, rfl, rfl⟩ | ⟨rfl, hn, rfl, rfl, rfl⟩ | ⟨rfl, rfl, rfl, rfl, rfl⟩ | ⟨rfl, rfl, rfl, rfl, hk⟩
    · have e : textO (d + 1) (.mk 0 0 0 [] [] []) = wNull := rfl
      rw [e]
      refine ⟨_, _, next_word wNull c r (.inr (.inr (.inl rfl))) hc, rfl, by simp, by decide, .inr (.inr ⟨by simp, by simp [Ob.kind], .inl ⟨rfl, fun e => ?_⟩⟩)⟩
      rfl
    · rcases hn with rfl | rfl
      · have e : textO (d + 1) (.mk 1 0 0 [] [] []) = wFalse := rfl
        rw [e]
        refine ⟨_, _, next_word wFalse c r (.inr (.inl rfl)) hc, rfl, by simp, by decide, .inr (.inr ⟨by simp, by simp [Ob.kind], .inl ⟨rfl, fun e => ?_⟩⟩)⟩
        rfl
      · have e : textO (d + 1) (.mk 1 1 0 [] [] []) = wTrue := rfl
        rw [e]
        refine ⟨_, _, next_word wTrue c r (.inl rfl) hc, rfl, by simp, by decide, .inr (.inr ⟨by simp, by simp [Ob.kind], .inl ⟨rfl, fun e => ?_⟩⟩)⟩
        rfl
    · have e : textO (d + 1) (.mk 2 n 0 [] [] []) = digI n := rfl
      rw [e]
      exact ⟨_, _, next_int n hn.1 hn.2 c r hc, rfl, by simp, by simp, .inl ⟨rfl, rfl, rfl, rfl, rfl⟩⟩
    · have e : textO (d + 1) (.mk 3 n 0 [] [] []) = realT n := rfl
      rw [e]
      exact ⟨_, _, next_real n hn.1 hn.2 c r hc, rfl, by simp, by simp, .inr (.inr ⟨by simp, by simp [Ob.kind], .inl ⟨rfl, fun e => rfl⟩⟩)⟩
    · have e : textO (d + 1) (.mk 4 0 0 s [] []) ++ c :: r = 40 :: (escS false s ++ 41 :: c :: r) := by
        show (40 :: (escS false s ++ [41])) ++ c :: r = _; simp
      rw [e]
      exact ⟨_, _, next_str s c r hs, rfl, by simp, by simp, .inr (.inr ⟨by simp, by simp [Ob.kind], .inl ⟨rfl, fun e => rfl⟩⟩)⟩
    · have e : textO (d + 1) (.mk 5 0 0 s [] []) ++ c :: r = 47 :: (escS true s ++ c :: r) := rfl
      rw [e]
      obtain ⟨h0, hl⟩ := nameB_ne hs
      exact ⟨_, _, next_name s c r h0 hl hc, rfl, by simp, by simp, .inr (.inr ⟨by simp, by simp [Ob.kind], .inl ⟨rfl, fun e => rfl⟩⟩)⟩
    · have e : textO (d + 1) (.mk 8 n g [] [] []) ++ c :: r = digI n ++ 32 :: (digI g ++ 32 :: 82 :: c :: r) := by
        show (digI n ++ 32 :: (digI g ++ [32, 82])) ++ c :: r = _; simp
      rw [e]
      exact ⟨_, _, next_int n (by omega) (by omega) 32 _ sep32, rfl, by simp, by simp, .inr (.inl ⟨rfl, rfl, rfl, rfl, rfl, hn⟩)⟩
    · have e : textO (d + 1) (.mk 6 0 0 [] [] cs) ++ c :: r = 91 :: (kidsT d cs ++ 93 :: c :: r) := by
        show (91 :: (kidsT d cs ++ [93])) ++ c :: r = _; simp
      rw [e]
      exact ⟨_, _, next_mark1 91 _ (.inl rfl), rfl, by simp, by simp, .inr (.inr ⟨by simp, by simp [Ob.kind], .inr (.inl ⟨rfl, rfl, rfl, rfl, rfl⟩)⟩)⟩
    · have e : textO (d + 1) (.mk 7 0 0 [] ks cs) ++ c :: r = 60 :: 60 :: (pairsT d (ks.zip cs) ++ 62 :: 62 :: c :: r) := by
        show (60 :: 60 :: (pairsT d (ks.zip cs) ++ [62, 62])) ++ c :: r = _; simp
      rw [e]
      exact ⟨_, _, next_mark2 60 _ (.inl rfl), rfl, by simp, by simp, .inr (.inr ⟨by simp, by simp [Ob.kind], .inr (.inr ⟨rfl, rfl, rfl, rfl, rfl, hk⟩)⟩)⟩
theorem fol_text {d : Nat} {o : Ob} (h : okO (d + 1) o) (c : UInt8) (r : L) (hc : sep c) : fol (textO (d + 1) o ++ c :: r) := by
  obtain ⟨t, l, h1, _, _, h4, _⟩ := first_tok h c r hc
  exact fol_of h1 h4
theorem fre_text {d : Nat} {o : Ob} (h : okO (d + 1) o) (c : UInt8) (r : L) (hc : sep c) (hf : fol r) : fre (textO (d + 1) o ++ c :: r) := by
  obtain ⟨t, l, h1, _, _, _, h5⟩ := first_tok h c r hc
  rcases h5 with ⟨_, _, _, rfl, _⟩ | ⟨_, _, _, rfl, _, h6, h7, h8, h9⟩ | ⟨h5, _⟩
  · exact fre_int h1 (fol_sep hc hf)
  · exact fre_int h1 (fol_sep sep32 (fol_of (next_int o.g (by omega) (by omega) 32 _ sep32) (by simp)))
  · exact fre_of h1 h5
theorem fol_mark (c : UInt8) (l : L) (h : c = 91 ∨ c = 93) : fol (c :: l) := fol_of (next_mark1 c l h) (by simp)
theorem fre_mark (c : UInt8) (l : L) (h : c = 91 ∨ c = 93) : fre (c :: l) := fre_of (next_mark1 c l h) (by simp)
theorem fre_mark2 (c : UInt8) (l : L) (h : c = 60 ∨ c = 62) : fre (c :: c :: l) := fre_of (next_mark2 c l h) (by simp)
theorem fol_kids {d : Nat} {cs : List Ob} (h : ∀ k ∈ cs, okO (d + 1) k) (r : L) : fol (kidsT (d + 1) cs ++ 93 :: r) := by
  cases cs with
  | nil => exact fol_mark 93 r (.inr rfl)
  | cons k cs => rw [kidsT_cons]; exact fol_text (h k (by simp)) 32 _ sep32
theorem fre_kids {d : Nat} {cs : List Ob} (h : ∀ k ∈ cs, okO (d + 1) k) (r : L) : fre (kidsT (d + 1) cs ++ 93 :: r) := by
  cases cs with
  | nil => exact fre_mark 93 r (.inr rfl)
  | cons k cs => rw [kidsT_cons]; exact fre_text (h k (by simp)) 32 _ sep32 (fol_kids (fun x hx => h x (by simp [hx])) r)
theorem fre_pairs {d : Nat} {ps : List (L × Ob)} (h : ∀ p ∈ ps, nameB p.1 = true) (r : L) : fre (pairsT d ps ++ 62 :: 62 :: r) := by
  cases ps with
  | nil => exact fre_mark2 62 r (.inr rfl)
  | cons p ps =>
    rw [pairsT_cons]
    obtain ⟨h0, hl⟩ := nameB_ne (h p (by simp))
    exact fre_of (next_name p.1 32 _ h0 hl sep32) (by simp)
end Fo
/- Plain Lean, no program: arrays, dictionaries and whole texts are read back. -/
namespace Fo

/-- Reading back with d levels left. -/
def BackP (d : Nat) : Prop := ∀ o, okO d o → ∀ (c : UInt8) (r : L), sep c → (o.kind = 2 → fre r) →
  ∃ t l, nextS (textO d o ++ c :: r) = .good (t, l) ∧ beginsS t = true ∧ ¬ (t.kind = 6 ∧ t.s = [93]) ∧ objS d t l = .good (o, c :: r)
theorem arr_back {d : Nat} (HB : BackP (d + 1)) : ∀ (cs acc : List Ob) (fuel : Nat) (rest : L), (∀ k ∈ cs, okO (d + 1) k) → acc.length + cs.length ≤ 8191 → (kidsT (d + 1) cs ++ 93 :: rest).length < fuel →
    arrS (objS (d + 1)) (d + 1) fuel (kidsT (d + 1) cs ++ 93 :: rest) acc = .good (acc ++ cs, rest)
  | [], acc, 0, rest, _, _, h => by omega
  | [], acc, fuel + 1, rest, _, _, _ => by
    have h1 := next_mark1 93 rest (.inr rfl)
    rw [show kidsT (d + 1) [] ++ 93 :: rest = 93 :: rest from rfl, arrS, h1]
    simp
  | k :: cs, acc, 0, rest, _, _, h => by omega
  | k :: cs, acc, fuel + 1, rest, hk, hl, hf => by
    rw [kidsT_cons] at hf ⊢
    have hk2 : ∀ x ∈ cs, okO (d + 1) x := fun x hx => hk x (by simp [hx])
    obtain ⟨t, l, h1, h2, h3, h4⟩ := HB k (hk k (by simp)) 32 _ sep32 (fun _ => fre_kids hk2 rest)
    simp only [List.length_cons] at hl
    rw [arrS, h1]
    dsimp only
    rw [if_neg h3, if_neg (by omega), h4]
    dsimp only
    rw [arrS_sep _ _ _ 32 _ _ sep32, arr_back HB cs (acc ++ [k]) fuel rest hk2 (by simp; omega) (by simp at hf ⊢; omega)]
    simp
theorem dict_back {d : Nat} (HB : BackP (d + 1)) : ∀ (ps acc : List (L × Ob)) (fuel : Nat) (rest : L), (∀ p ∈ ps, nameB p.1 = true ∧ okO (d + 1) p.2) → (acc ++ ps).Pairwise (fun p q => p.1 ≠ q.1) → acc.length + ps.length ≤ 8191 → (pairsT (d + 1) ps ++ 62 :: 62 :: rest).length < fuel →
    dictS (objS (d + 1)) fuel (pairsT (d + 1) ps ++ 62 :: 62 :: rest) acc = .good (acc ++ ps, rest)
  | [], acc, 0, rest, _, _, _, h => by omega
  | [], acc, fuel + 1, rest, _, _, _, _ => by
    have h1 := next_mark2 62 rest (.inr rfl)
    rw [show pairsT (d + 1) [] ++ 62 :: 62 :: rest = 62 :: 62 :: rest from rfl, dictS, h1]
    simp
  | p :: ps, acc, 0, rest, _, _, _, h => by omega
  | p :: ps, acc, fuel + 1, rest, hk, hd, hl, hf => by
    rw [pairsT_cons] at hf ⊢
    obtain ⟨hp1, hp2⟩ := hk p (by simp)
    have hk2 : ∀ x ∈ ps, nameB x.1 = true ∧ okO (d + 1) x.2 := fun x hx => hk x (by simp [hx])
    obtain ⟨h0, hl7⟩ := nameB_ne hp1
    obtain ⟨t, l, h1, h2, h3, h4⟩ := HB p.2 hp2 32 _ sep32 (fun _ => fre_pairs (d := d + 1) (fun x hx => (hk2 x hx).1) rest)
    simp only [List.length_cons] at hl
    have hany : ¬ (acc.any fun q => q.1 == p.1) = true := by
      intro hh
      obtain ⟨q, hq, he⟩ := List.any_eq_true.1 hh
      exact (List.pairwise_append.1 hd).2.2 q hq p (by simp) (by simpa using he)
    rw [dictS, next_name p.1 32 _ h0 hl7 sep32]
    dsimp only
    rw [if_neg (by simp), if_neg (by simp), if_neg hany, if_neg (by omega), nextS_sep 32 _ sep32, h1]
    dsimp only
    rw [h4]
    dsimp only
    rw [dictS_sep _ _ 32 _ _ sep32, dict_back HB ps (acc ++ [p]) fuel rest hk2 (by simpa using hd) (by simp; omega) (by simp at hf ⊢; omega)]
    simp
theorem keys_up {ks : List L} (h : ∀ i, i + 1 < ks.length → ks.getD i [] < ks.getD (i + 1) []) : ks.Pairwise (· < ·) := by
  rw [List.pairwise_iff_getElem]
  intro i j hi hj hij
  induction j with
  | zero => omega
  | succ j ih =>
    have h1 := h j hj
    rw [List.getD_eq_getElem?_getD, List.getD_eq_getElem?_getD, List.getElem?_eq_getElem (by omega), List.getElem?_eq_getElem hj] at h1
    simp only [Option.getD_some] at h1
    by_cases hj2 : i = j
    · subst hj2; exact h1
    · exact List.lt_trans (ih (by omega) (by omega)) h1
theorem look_zip : ∀ (ks : List L) (cs : List Ob), ks.length = cs.length → ks.Pairwise (· ≠ ·) → ks.map (fun k => (((ks.zip cs).find? fun p => p.1 == k).map (·.2)).getD .zero) = cs
  | [], [], _, _ => rfl
  | [], _ :: _, h, _ => by simp at h
  | _ :: _, [], h, _ => by simp at h
  | k :: ks, c :: cs, h, hp => by
    obtain ⟨h1, h2⟩ := List.pairwise_cons.1 hp
    have ih := look_zip ks cs (by simpa using h) h2
    rw [List.map_cons, List.zip_cons_cons]
    congr 1
    · simp
    · refine Eq.trans (List.map_congr_left (fun x hx => ?_)) ih
      rw [List.find?_cons_of_neg (by simpa using h1 x hx)]
theorem dict_same {ks : List L} {cs : List Ob} (h : keysB (.mk 7 0 0 [] ks cs) = true) : ks.length = cs.length ∧ (∀ k ∈ ks, nameB k = true) ∧ ks.Pairwise (· < ·) ∧ mkDict (ks.zip cs) = .mk 7 0 0 [] ks cs := by
  unfold keysB at h
  rw [if_neg (by simp [Ob.kind]), if_neg (by simp [Ob.kind])] at h
  replace h : (ks.length == cs.length && (List.range ks.length).all (keyAt (.mk 7 0 0 [] ks cs))) = true := h
  simp only [Bool.and_eq_true, beq_iff_eq, List.all_eq_true, List.mem_range] at h
  obtain ⟨hl, ha⟩ := h
  have hat : ∀ i, i < ks.length → nameB (ks.getD i []) = true ∧ (i = 0 ∨ ks.getD (i - 1) [] < ks.getD i []) ∧ (cs.getD i .zero).kind ≠ 0 := by
    intro i hi
    have := ha i hi
    unfold keyAt at this
    simp only [Ob.kind, Ob.keys, Ob.kids, Bool.and_eq_true, Bool.or_eq_true, beq_iff_eq, decide_eq_true_eq, bne_iff_ne, ne_eq] at this
    exact ⟨this.1.1.1, this.1.1.2.imp id of_decide_eq_true, this.2⟩
  have hpw : ks.Pairwise (· < ·) := keys_up (fun i hi => by
    have := (hat (i + 1) hi).2.1
    rcases this with h | h
    · omega
    · simpa using h)
  have hne : ks.Pairwise (· ≠ ·) := hpw.imp (fun h he => by subst he; exact absurd h (List.lt_irrefl _))
  have hkind : ∀ p ∈ ks.zip cs, (p.2.kind != 0) = true := by
    intro p hp
    obtain ⟨i, hi, rfl⟩ := List.mem_iff_getElem.1 hp
    have hi2 : i < ks.length := by simp at hi; omega
    have := (hat i hi2).2.2
    rw [List.getD_eq_getElem?_getD, List.getElem?_eq_getElem (by omega)] at this
    simpa using this
  refine ⟨hl, ?_, hpw, ?_⟩
  · intro k hk
    obtain ⟨i, hi, rfl⟩ := List.mem_iff_getElem.1 hk
    have := (hat i hi).1
    rw [List.getD_eq_getElem?_getD, List.getElem?_eq_getElem hi] at this
    simpa using this
  · unfold mkDict
    have e1 : (ks.zip cs).filter (fun p => p.2.kind != 0) = ks.zip cs := List.filter_eq_self.2 hkind
    have e2 : (ks.zip cs).map (·.1) = ks := List.map_fst_zip (by omega)
    rw [e1, e2]
    have e3 : isort ks = ks := (isort_of_perm (List.Perm.refl ks) (hpw.imp (fun h => List.le_of_lt h))).symm
    rw [e3]
    simp only
    rw [look_zip ks cs hl hne]
theorem ref_back (n g : Int) (t : Tok) (c : UInt8) (r : L) (hc : sep c) (hn : t.n = n) (h : 1 ≤ n ∧ n ≤ 8191 ∧ 0 ≤ g ∧ g ≤ 65535) : refS t (32 :: (digI g ++ 32 :: 82 :: c :: r)) = some (g, c :: r) := by
  rw [refS_sep t 32 _ sep32]
  have h1 := next_int g (by omega) (by omega) 32 (82 :: c :: r) sep32
  obtain ⟨g1, _, g3⟩ := nextS_good h1
  have h2 := next_word [82] c r (.inr (.inr (.inr rfl))) hc
  have h2' : nextS (32 :: 82 :: c :: r) = .good (⟨5, 1, 0, [82]⟩, c :: r) := by rw [nextS_sep 32 _ sep32]; exact h2
  obtain ⟨w1, _, w3⟩ := nextS_good h2'
  unfold refS
  rw [if_neg (by omega), g1]
  dsimp only
  rw [if_neg (by simp; omega)]
  dsimp only at g3
  rw [← g3, w1]
  dsimp only
  dsimp only at w3
  rw [if_pos ⟨rfl, rfl⟩, ← w3]
theorem back_all : ∀ d, BackP d
  | 0 => fun o h => h.elim
  | 1 => by
    intro o h c r hc hf
    obtain ⟨t, l, h1, h2, h3, _, h5⟩ := first_tok h c r hc
    refine ⟨t, l, h1, h2, h3, ?_⟩
    rcases h5 with ⟨hk, hk1, hn, rfl, ho⟩ | ⟨hk, hk1, hn, rfl, ho, g1, g2, g3, g4⟩ | ⟨hk, hk2, ⟨rfl, h6⟩ | ⟨h6, h7, h8, rfl, ho⟩ | ⟨h6, h7, h8, rfl, ho, hkb⟩⟩
    · rw [objS, if_pos h2, if_pos hk1, fre_sep hc (hf hk) t, hn, ← ho]
    · rw [objS, if_pos h2, if_pos hk1, ref_back o.n o.g t c r hc hn ⟨g1, g2, g3, g4⟩]
      dsimp only
      rw [hn, ← ho]
    · exact h6 0
    · obtain ⟨e1, _, _, _, _, _, hks⟩ := h
      have hc0 : o.kids = [] := by
        cases hh : o.kids with
        | nil => rfl
        | cons k ks => exact (hks k (by rw [hh]; simp)).elim
      rw [hc0] at ho
      rw [objS, if_pos h2, if_neg (by omega), if_neg (by omega), if_neg (by omega), if_neg (by omega), if_neg (by omega), if_pos h8, hc0, show kidsT 0 [] ++ 93 :: c :: r = 93 :: c :: r from rfl, arrS, next_mark1 93 _ (.inr rfl)]
      simp [← ho]
    · obtain ⟨e1, _, _, _, _, _, hks⟩ := h
      have hc0 : o.kids = [] := by
        cases hh : o.kids with
        | nil => rfl
        | cons k ks => exact (hks k (by rw [hh]; simp)).elim
      rw [ho, hc0] at hkb
      obtain ⟨s1, _, _, s4⟩ := dict_same hkb
      have hk0 : o.keys = [] := List.eq_nil_of_length_eq_zero (by simpa using s1)
      rw [hk0] at ho s4
      rw [objS, if_pos h2, if_neg (by omega), if_neg (by omega), if_neg (by omega), if_neg (by omega), if_neg (by omega), if_neg (by rw [h8]; decide), hk0, hc0, show pairsT 0 (([] : List L).zip ([] : List Ob)) ++ 62 :: 62 :: c :: r = 62 :: 62 :: c :: r from rfl, dictS, next_mark2 62 _ (.inr rfl)]
      simp only [List.zip_nil_left] at s4
      simp [s4]
      rw [hc0] at ho
      exact ho.symm
  | d + 2 => by
    intro o h c r hc hf
    obtain ⟨t, l, h1, h2, h3, _, h5⟩ := first_tok h c r hc
    refine ⟨t, l, h1, h2, h3, ?_⟩
    rcases h5 with ⟨hk, hk1, hn, rfl, ho⟩ | ⟨hk, hk1, hn, rfl, ho, g1, g2, g3, g4⟩ | ⟨hk, hk2, ⟨rfl, h6⟩ | ⟨h6, h7, h8, rfl, ho⟩ | ⟨h6, h7, h8, rfl, ho, hkb⟩⟩
    · rw [objS, if_pos h2, if_pos hk1, fre_sep hc (hf hk) t, hn, ← ho]
    · rw [objS, if_pos h2, if_pos hk1, ref_back o.n o.g t c r hc hn ⟨g1, g2, g3, g4⟩]
      dsimp only
      rw [hn, ← ho]
    · exact h6 (d + 1)
    · obtain ⟨e1, _, _, _, hl, _, hks⟩ := h
      rw [objS, if_pos h2, if_neg (by omega), if_neg (by omega), if_neg (by omega), if_neg (by omega), if_neg (by omega), if_pos h8, arr_back (back_all (d + 1)) o.kids [] _ (c :: r) hks (by simpa using hl) (by omega)]
      dsimp only
      rw [List.nil_append, ← ho]
    · obtain ⟨e1, _, _, _, hl, _, hks⟩ := h
      rw [ho] at hkb
      obtain ⟨s1, s2, s3, s4⟩ := dict_same hkb
      have hz : (o.keys.zip o.kids).length ≤ 8191 := by simp; omega
      rw [objS, if_pos h2, if_neg (by omega), if_neg (by omega), if_neg (by omega), if_neg (by omega), if_neg (by omega), if_neg (by rw [h8]; decide), dict_back (back_all (d + 1)) (o.keys.zip o.kids) [] _ (c :: r) ?_ ?_ (by simpa using hz) (by omega)]
      · dsimp only
        rw [List.nil_append, s4, ← ho]
      · intro p hp
        exact ⟨s2 p.1 (List.of_mem_zip hp).1, hks p.2 (List.of_mem_zip hp).2⟩
      · rw [List.nil_append]
        have : ((o.keys.zip o.kids).map (·.1)).Pairwise (· ≠ ·) := by
          rw [List.map_fst_zip (by omega)]
          exact s3.imp (fun h he => by subst he; exact absurd h (List.lt_irrefl _))
        exact List.pairwise_map.1 this
theorem back_top {o : Ob} (h : okO 24 o) (hk : o.kind ≠ 2) (c : UInt8) (r : L) (hc : sep c) : readS (textO 24 o ++ c :: r) = .good (o, c :: r) := by
  obtain ⟨t, l, h1, _, _, h4⟩ := back_all 24 o h c r hc (fun h2 => absurd h2 hk)
  unfold readS
  rw [h1]; exact h4
theorem back_whole {o : Ob} (h : okO 24 o) : readS (32 :: (textO 24 o ++ [10])) = .good (o, [10]) := by
  obtain ⟨t, l, h1, _, _, h4⟩ := back_all 24 o h 10 [] (.inr rfl) (fun _ => fre_nil)
  unfold readS
  rw [nextS_sep 32 _ sep32, h1]
  exact h4
/-- An integer's text may go on as a reference. -/
theorem back_int {o : Ob} (h : okO 24 o) (hk : o.kind = 2) (c : UInt8) (r : L) (hc : sep c) :
    readS (textO 24 o ++ c :: r) = .good (o, c :: r) ∨ ∃ g l, readS (textO 24 o ++ c :: r) = .good (.ref o.n g, l) := by
  obtain ⟨t, l, h1, h2, _, _, h5⟩ := first_tok (d := 23) h c r hc
  rcases h5 with ⟨_, hk1, hn, rfl, ho⟩ | ⟨hk8, _⟩ | ⟨_, hk2, _⟩
  · unfold readS
    rw [h1]
    dsimp only
    rw [objS, if_pos h2, if_pos hk1]
    cases hr : refS t (c :: r) with
    | none => left; rw [hn, ← ho]
    | some x => obtain ⟨g, l⟩ := x; right; exact ⟨g, l, by rw [hn]⟩
  · omega
  · exact absurd hk hk2
end Fo
/- Plain Lean, no program: an object that the check passes is valid; how much an object holds, and how long its text is. -/
namespace Fo

theorem firstBad_all {l : List Int} (h : firstBad l = 0) : ∀ x ∈ l, x = 0 := by
  unfold firstBad at h
  intro x hx
  cases hf : l.find? (· != 0) with
  | none => have := List.find?_eq_none.1 hf x hx; simpa using this
  | some y =>
    have h1 := List.find?_some hf
    rw [hf] at h
    simp only [Option.getD_some] at h
    rw [h] at h1; simp at h1
theorem check_okO : ∀ (d : Nat) (o : Ob), d ≤ 24 → (d = 24 → o.kind ≠ 9) → checkB d o = 0 → okO d o
  | 0, _, _, _, h => by simp [checkB] at h
  | d + 1, o, hd, hk, h => by
    unfold checkB at h
    by_cases h1 : (!usesB o || (o.kind == 9 && d != 23)) = true
    · rw [if_pos h1] at h; omega
    rw [if_neg h1] at h
    by_cases h2 : (!fitsB o) = true
    · rw [if_pos h2] at h; omega
    rw [if_neg h2] at h
    by_cases h3 : longB o.kind < o.s.length
    · rw [if_pos h3] at h; omega
    rw [if_neg h3] at h
    by_cases h4 : 8191 < o.kids.length
    · rw [if_pos h4] at h; omega
    rw [if_neg h4] at h
    by_cases h5 : (!keysB o) = true
    · rw [if_pos h5] at h; omega
    rw [if_neg h5] at h
    simp only [Bool.or_eq_true, Bool.not_eq_true', Bool.and_eq_true, beq_iff_eq, bne_iff_ne, ne_eq, not_or, not_and, Bool.not_eq_false, Decidable.not_not] at h1 h2 h5
    refine ⟨h1.1, fun h9 => ?_, h2, by omega, by omega, h5, fun k hkk => check_okO d k (by omega) (fun e => by omega) (firstBad_all h _ (List.mem_map.2 ⟨k, hkk, rfl⟩))⟩
    have := h1.2 h9
    exact hk (by omega) h9

/-- What an object holds: values and letters, each time it is reached, down to so many levels. -/
def bulkO : Nat → Ob → Nat
  | 0, _ => 0
  | d + 1, o => 1 + o.s.length + (o.keys.map (fun k => k.length + 1)).sum + (o.kids.map (bulkO d)).sum
theorem le_sum {l : List Nat} {x : Nat} (h : x ∈ l) : x ≤ l.sum := by
  induction l with
  | nil => cases h
  | cons a l ih =>
    rw [List.sum_cons]
    rcases List.mem_cons.1 h with rfl | h
    · omega
    · have := ih h; omega
theorem len_sum {α : Type} {l : List α} {f : α → Nat} (h : ∀ x ∈ l, 1 ≤ f x) : l.length ≤ (l.map f).sum := by
  induction l with
  | nil => simp
  | cons a l ih =>
    have h1 := h a (by simp)
    have := ih (fun x hx => h x (by simp [hx]))
    simp only [List.length_cons, List.map_cons, List.sum_cons]
    omega
theorem bulk_pos (d : Nat) (o : Ob) : 1 ≤ bulkO (d + 1) o := by unfold bulkO; omega
theorem bulk_s (d : Nat) (o : Ob) : o.s.length ≤ bulkO (d + 1) o := by unfold bulkO; omega
theorem bulk_kid {d : Nat} {o k : Ob} (h : k ∈ o.kids) : bulkO d k ≤ bulkO (d + 1) o := by
  have := le_sum (List.mem_map.2 ⟨k, h, rfl⟩ : bulkO d k ∈ o.kids.map (bulkO d))
  show _ ≤ 1 + o.s.length + (o.keys.map (fun k => k.length + 1)).sum + (o.kids.map (bulkO d)).sum
  omega
theorem bulk_key {d : Nat} {o : Ob} {k : L} (h : k ∈ o.keys) : k.length ≤ bulkO (d + 1) o := by
  have := le_sum (List.mem_map.2 ⟨k, h, rfl⟩ : k.length + 1 ∈ o.keys.map (fun k => k.length + 1))
  unfold bulkO; omega
theorem bulk_keys (d : Nat) (o : Ob) : o.keys.length ≤ bulkO (d + 1) o := by
  have := len_sum (l := o.keys) (f := fun k => k.length + 1) (fun x _ => by omega)
  unfold bulkO; omega
theorem bulk_kids (d : Nat) (o : Ob) : o.kids.length ≤ bulkO (d + 2) o := by
  have := len_sum (l := o.kids) (f := bulkO (d + 1)) (fun x _ => bulk_pos d x)
  show _ ≤ 1 + o.s.length + (o.keys.map (fun k => k.length + 1)).sum + (o.kids.map (bulkO (d + 1))).sum
  omega

theorem escC_le (nm : Bool) (c : UInt8) : (escC nm c).length ≤ 4 := by unfold escC; split <;> (try split) <;> simp
theorem escS_le (nm : Bool) (l : L) : (escS nm l).length ≤ 4 * l.length := by
  induction l with
  | nil => simp [escS]
  | cons c l ih =>
    have := escC_le nm c
    simp only [escS, List.length_append, List.length_cons]
    omega
theorem digI_le (n : Int) (h1 : -2147483647 ≤ n) (h2 : n ≤ 2147483647) : (digI n).length ≤ 11 := by
  have := digU_len n.natAbs 9 (by omega)
  unfold digI
  split <;> simp <;> omega
theorem realT_le (n : Int) (h1 : -1073741824 ≤ n) (h2 : n ≤ 1073741824) : (realT n).length ≤ 16 := by
  have h3 := digU_len (n.natAbs / 10000) 9 (by omega)
  have h4 := (fracT_ok n.natAbs).2.2.1
  unfold realT realU
  split <;> simp <;> omega
theorem kids_le {d : Nat} {cs : List Ob} (h : ∀ k ∈ cs, (textO d k).length + 6 ≤ 48 * bulkO d k) : (kidsT d cs).length ≤ 48 * (cs.map (bulkO d)).sum := by
  induction cs with
  | nil => simp [kidsT]
  | cons k cs ih =>
    have h1 := h k (by simp)
    have h2 := ih (fun x hx => h x (by simp [hx]))
    have h3 := congrArg List.length (kidsT_cons d k cs [])
    simp only [List.length_append, List.length_cons, List.length_nil] at h3
    simp only [List.map_cons, List.sum_cons]
    omega
theorem pairs_le {d : Nat} : ∀ {ks : List L} {cs : List Ob}, (∀ k ∈ cs, (textO d k).length + 6 ≤ 48 * bulkO d k) → (pairsT d (ks.zip cs)).length ≤ 48 * (ks.map (fun k => k.length + 1)).sum + 48 * (cs.map (bulkO d)).sum
  | [], cs, _ => by simp [pairsT]
  | k :: ks, [], _ => by simp [pairsT]
  | k :: ks, c :: cs, h => by
    have h1 := h c (by simp)
    have h2 := pairs_le (ks := ks) (cs := cs) (fun x hx => h x (by simp [hx]))
    have h3 := congrArg List.length (pairsT_cons d (k, c) (ks.zip cs) [])
    have h4 := escS_le true k
    simp only [List.length_append, List.length_cons, List.length_nil] at h3
    simp only [List.zip_cons_cons, List.map_cons, List.sum_cons]
    omega
theorem text_le : ∀ (d : Nat) (o : Ob), okO d o → (textO d o).length + 6 ≤ 48 * bulkO d o
  | 0, _, h => h.elim
  | d + 1, o, h => by
    have hk : ∀ k ∈ o.kids, (textO d k).length + 6 ≤ 48 * bulkO d k := fun k hk => text_le d k (h.2.2.2.2.2.2 k hk)
    have e := bulk_pos d o
    cases o with
    | mk k n g s ks cs =>
      rcases okO_kinds h with ⟨rfl, rfl, rfl, rfl, rfl, rfl⟩ | ⟨rfl, hn, rfl, rfl, rfl, rfl⟩ | ⟨rfl, hn, rfl, rfl, rfl, rfl⟩ | ⟨rfl, hn, rfl, rfl, rfl, rfl⟩ | ⟨rfl, rfl, rfl, hs, rfl, rfl⟩ | ⟨rfl, rfl, rfl, hs, rfl, rfl⟩ | ⟨rfl, hn, rfl, rfl, rfl⟩ | ⟨rfl, rfl, rfl, rfl, rfl⟩ | ⟨rfl, rfl, rfl, rfl, hkb⟩
      · have : (textO (d + 1) (.mk 0 0 0 [] [] [])).length = 4 := rfl
        omega
      · rcases hn with rfl | rfl
        · have : (textO (d + 1) (.mk 1 0 0 [] [] [])).length = 5 := rfl
          omega
        · have : (textO (d + 1) (.mk 1 1 0 [] [] [])).length = 4 := rfl
          omega
      · have : (textO (d + 1) (.mk 2 n 0 [] [] [])).length = (digI n).length := rfl
        have := digI_le n hn.1 hn.2
        omega
      · have : (textO (d + 1) (.mk 3 n 0 [] [] [])).length = (realT n).length := rfl
        have := realT_le n hn.1 hn.2
        omega
      · have e1 : (textO (d + 1) (.mk 4 0 0 s [] [])).length = (40 :: (escS false s ++ [41])).length := rfl
        have e2 := escS_le false s
        simp only [List.length_cons, List.length_append, List.length_nil] at e1
        have e3 : bulkO (d + 1) (.mk 4 0 0 s [] []) = 1 + s.length + 0 + 0 := rfl
        omega
      · have e1 : (textO (d + 1) (.mk 5 0 0 s [] [])).length = (47 :: escS true s).length := rfl
        have e2 := escS_le true s
        simp only [List.length_cons] at e1
        have e3 : bulkO (d + 1) (.mk 5 0 0 s [] []) = 1 + s.length + 0 + 0 := rfl
        omega
      · have e1 : (textO (d + 1) (.mk 8 n g [] [] [])).length = (digI n ++ 32 :: (digI g ++ [32, 82])).length := rfl
        simp only [List.length_cons, List.length_append, List.length_nil] at e1
        have := digI_le n (by omega) (by omega)
        have := digI_le g (by omega) (by omega)
        omega
      · have e1 : (textO (d + 1) (.mk 6 0 0 [] [] cs)).length = (91 :: (kidsT d cs ++ [93])).length := rfl
        simp only [List.length_cons, List.length_append, List.length_nil] at e1
        have e2 := kids_le hk
        have e3 : bulkO (d + 1) (.mk 6 0 0 [] [] cs) = 1 + 0 + 0 + (cs.map (bulkO d)).sum := rfl
        simp only [Ob.kids] at e2
        omega
      · have e1 : (textO (d + 1) (.mk 7 0 0 [] ks cs)).length = (60 :: 60 :: (pairsT d (ks.zip cs) ++ [62, 62])).length := rfl
        simp only [List.length_cons, List.length_append, List.length_nil] at e1
        have e2 := pairs_le (ks := ks) hk
        have e3 : bulkO (d + 1) (.mk 7 0 0 [] ks cs) = 1 + 0 + (ks.map (fun k => k.length + 1)).sum + (cs.map (bulkO d)).sum := rfl
        simp only [Ob.kids] at e2
        omega
end Fo
