/- Plain Lean, no program: objects and tokens on lists of bytes. -/
set_option linter.all false
/- Plain Lean, no program: what the lexer's and the number reader's functions compute, said on lists of bytes. -/
namespace Fo
abbrev L := List UInt8

def white (c : UInt8) : Bool := c == 0 || c == 9 || c == 10 || c == 12 || c == 13 || c == 32
def delim (c : UInt8) : Bool := c == 40 || c == 41 || c == 60 || c == 62 || c == 91 || c == 93 || c == 123 || c == 125 || c == 47 || c == 37
def regular (c : UInt8) : Bool := !white c && !delim c
def eol (c : UInt8) : Bool := c == 13 || c == 10

/-- The value of a hexadecimal digit, or -1. -/
def digit (c : Nat) : Int :=
  if 48 ≤ c ∧ c ≤ 57 then c - 48 else if 65 ≤ c ∧ c ≤ 70 then c - 65 + 10 else if 97 ≤ c ∧ c ≤ 102 then c - 97 + 10 else -1
def hexv (c : UInt8) : Int := digit c.toNat

/-- How many bytes are white space or comment, from here on; the flag: inside a comment. -/
def skipN : Bool → L → Nat
  | _, [] => 0
  | true, c :: l => skipN (!eol c) l + 1
  | false, c :: l => if c == 37 then skipN true l + 1 else if white c then skipN false l + 1 else 0

/-- How many bytes up to and with the next end of line. -/
def lineN : L → Nat
  | [] => 0
  | 13 :: 10 :: _ => 2
  | c :: l => if eol c then 1 else lineN l + 1

def regN : L → Nat
  | [] => 0
  | c :: l => if regular c then regN l + 1 else 0

/-- A token, its place said from the first byte of the token: kind, number of bytes, N, S. -/
structure Tok where
  kind : Int
  len : Nat
  n : Int
  s : L

/-- An answer or an error's code. -/
inductive Res (α : Type) where
  | bad (e : Int)
  | good (a : α)

def told (kind : Int) (len : Nat) (text : L) (most : Nat) : Res Tok :=
  if most < text.length then .bad 5 else .good ⟨kind, len, 0, text⟩

/-- The bytes of a name behind its slash; the number: how many bytes are still to be passed over. -/
def nameS : L → Nat → L → Res L
  | acc, _, [] => .good acc
  | acc, k + 1, _ :: l => nameS acc k l
  | acc, 0, c :: l =>
    if c == 35 then
      match l with
      | a :: b :: _ => if hexv a < 0 ∨ hexv b < 0 ∨ 16 * hexv a + hexv b = 0 then .bad 3 else nameS (acc ++ [UInt8.ofNat (16 * hexv a + hexv b).toNat]) 2 l
      | _ => .bad 3
    else nameS (acc ++ [c]) 0 l

def nameOf (n : Nat) : Res L → Res Tok
  | .bad e => .bad e
  | .good x => told 4 (n + 1) x 127
def nameT (l : L) : Res Tok := nameOf (regN l) (nameS [] 0 (l.take (regN l)))
/-- The token of a string whose bytes, and whose length in the text behind its first sign, are told. -/
def strOf : Res (L × Nat) → Res Tok
  | .bad e => .bad e
  | .good x => told 3 (x.2 + 1) x.1 32767

/-- What a backslash stands for, and how many bytes behind it that takes. -/
def oct (c : UInt8) : Bool := 48 ≤ c && c ≤ 55
def octN : Nat → Nat → Nat → L → Nat × Nat
  | 0, v, n, _ => (v, n)
  | _ + 1, v, n, [] => (v, n)
  | k + 1, v, n, c :: l => if oct c then octN k (8 * v + (c.toNat - 48)) (n + 1) l else (v, n)
def esc : L → L × Nat
  | [] => ([], 0)
  | c :: l =>
    if c == 110 then ([10], 1) else if c == 114 then ([13], 1) else if c == 116 then ([9], 1) else if c == 98 then ([8], 1) else if c == 102 then ([12], 1)
    else if eol c then ([], lineN (c :: l))
    else if (octN 3 0 0 (c :: l)).2 = 0 then ([c], 1) else ([UInt8.ofNat (octN 3 0 0 (c :: l)).1], (octN 3 0 0 (c :: l)).2)

/-- A literal string behind its first parenthesis: what was gathered, how many bytes were read, how many parentheses are open, how many bytes are still to be passed over. -/
def textS : L → Nat → Nat → Nat → L → Res (L × Nat)
  | _, _, _, _, [] => .bad 4
  | acc, n, op, k + 1, _ :: l => textS acc (n + 1) op k l
  | acc, n, op, 0, c :: l =>
    if eol c then textS (acc ++ [10]) (n + 1) op (lineN (c :: l) - 1) l
    else if c == 92 then (if l = [] then .bad 4 else textS (acc ++ (esc l).1) (n + 1) op (esc l).2 l)
    else if c == 40 then textS (acc ++ [c]) (n + 1) (op + 1) 0 l
    else if c == 41 then (if op = 1 then .good (acc, n + 1) else textS (acc ++ [c]) (n + 1) (op - 1) 0 l)
    else textS (acc ++ [c]) (n + 1) op 0 l

def textT (l : L) : Res Tok := strOf (textS [] 0 1 0 l)

/-- A hexadecimal string behind its bracket; 'half': the digit that waits for its second, or -1. -/
def hexS : L → Nat → Int → L → Res (L × Nat)
  | _, _, _, [] => .bad 4
  | acc, n, half, c :: l =>
    if c == 62 then .good (if 0 ≤ half then acc ++ [UInt8.ofNat (16 * half).toNat] else acc, n + 1)
    else if white c then hexS acc (n + 1) half l
    else if hexv c < 0 then .bad 3
    else if half < 0 then hexS acc (n + 1) (hexv c) l
    else hexS (acc ++ [UInt8.ofNat (16 * half + hexv c).toNat]) (n + 1) (-1) l

def hexT (l : L) : Res Tok := strOf (hexS [] 0 (-1) l)

def isDig (c : UInt8) : Bool := 48 ≤ c && c ≤ 57
def sign (c : UInt8) : Bool := c == 43 || c == 45
def allDig (l : L) : Bool := l.all isDig
def unsigned : L → L
  | [] => []
  | c :: l => if sign c then l else c :: l
def isInt (l : L) : Bool := !(unsigned l).isEmpty && allDig (unsigned l)
def val (l : L) : Nat := l.foldl (fun v c => 10 * v + (c.toNat - 48)) 0
def minus (l : L) : Bool := l.head? == some 45
def wholeV (l : L) : Res Int :=
  if 2147483647 < val (unsigned l) then .bad 2 else .good (if minus l then -(val (unsigned l) : Int) else val (unsigned l))

/-- The digits ahead of the first period, and those behind it. -/
def preDot (l : L) : L := l.takeWhile (· != 46)
def postDot (l : L) : L := (l.dropWhile (· != 46)).drop 1
/-- Do digits, read as those of a fraction, lie above one half, at least at one half? -/
def atHalf (l : L) : Bool := match l with | [] => false | c :: _ => 53 ≤ c
def overHalf (l : L) : Bool := match l with | [] => false | c :: r => 53 < c || (c == 53 && r.any (· != 48))
def part4 (l : L) : L := (l ++ [48, 48, 48, 48]).take 4
/-- The number that a text reads as, in units. -/
def fixV (l : L) : Res Int :=
  if 40 < l.length then .bad 3
  else if (preDot (unsigned l) ++ postDot (unsigned l)).isEmpty then .bad 3
  else if !allDig (preDot (unsigned l)) || !allDig (postDot (unsigned l)) then .bad 3
  else
    let m := val (preDot (unsigned l) ++ part4 (postDot (unsigned l)))
    let m := if (if minus l then overHalf ((postDot (unsigned l)).drop 4) else atHalf ((postDot (unsigned l)).drop 4)) then m + 1 else m
    if 1073741824 < m then .bad 2 else .good (if minus l then -(m : Int) else m)

/-- A run of regular bytes: a number or a word. -/
def wordT (r : L) : Res Tok :=
  if isInt r then (match wholeV r with | .bad e => .bad e | .good n => .good ⟨1, r.length, n, []⟩)
  else if r.contains 46 then
    (match fixV r with
      | .good n => .good ⟨2, r.length, n, []⟩
      | .bad 2 => .bad 2
      | .bad _ => told 5 r.length r 127)
  else told 5 r.length r 127

/-- The token that begins with the first byte, which is neither white space nor a comment's. -/
def tokT : L → Res Tok
  | [] => .bad 0
  | c :: l =>
    if c == 91 || c == 93 || c == 123 || c == 125 then .good ⟨6, 1, 0, [c]⟩
    else if c == 60 then (if l.head? = some 60 then .good ⟨6, 2, 0, [60, 60]⟩ else hexT l)
    else if c == 62 then (if l.head? = some 62 then .good ⟨6, 2, 0, [62, 62]⟩ else .bad 3)
    else if c == 47 then nameT l
    else if c == 40 then textT l
    else if c == 41 then .bad 3
    else wordT ((c :: l).take (regN (c :: l)))

/-- The next token: how many bytes lie ahead of it, and itself. -/
def nextT (l : L) : Nat × Res Tok :=
  (skipN false l, if l.drop (skipN false l) = [] then .good ⟨0, 0, 0, []⟩ else tokT (l.drop (skipN false l)))
end Fo
/- Plain Lean, no program: objects, and what the parser computes on the rest of a text. -/
namespace Fo

/-- An object: kind, N, G, S, keys, kids. -/
inductive Ob where
  | mk (kind n g : Int) (s : L) (keys : List L) (kids : List Ob)

def Ob.kind : Ob → Int | .mk k _ _ _ _ _ => k
def Ob.n : Ob → Int | .mk _ n _ _ _ _ => n
def Ob.g : Ob → Int | .mk _ _ g _ _ _ => g
def Ob.s : Ob → L | .mk _ _ _ s _ _ => s
def Ob.keys : Ob → List L | .mk _ _ _ _ k _ => k
def Ob.kids : Ob → List Ob | .mk _ _ _ _ _ k => k
def Ob.zero : Ob := .mk 0 0 0 [] [] []
def Ob.int (n : Int) : Ob := .mk 2 n 0 [] [] []
def Ob.real (n : Int) : Ob := .mk 3 n 0 [] [] []
def Ob.str (s : L) : Ob := .mk 4 0 0 s [] []
def Ob.name (s : L) : Ob := .mk 5 0 0 s [] []
def Ob.ref (n g : Int) : Ob := .mk 8 n g [] [] []
def Ob.bool (b : Bool) : Ob := .mk 1 (if b then 1 else 0) 0 [] [] []

def wTrue : L := [116, 114, 117, 101]
def wFalse : L := [102, 97, 108, 115, 101]
def wNull : L := [110, 117, 108, 108]

/-- The next token, which must be there, and what follows it. -/
def nextS (l : L) : Res (Tok × L) :=
  match (nextT l).2 with
  | .bad e => .bad e
  | .good t => if t.kind = 0 then .bad 4 else .good (t, l.drop ((nextT l).1 + t.len))

def beginsS (t : Tok) : Bool :=
  if t.kind = 5 then t.s == wTrue || t.s == wFalse || t.s == wNull
  else if t.kind = 6 then t.s == [91] || t.s == [60, 60]
  else true

/-- The reference whose number is the token t: its generation, and what follows it. -/
def refS (t : Tok) (l : L) : Option (Int × L) :=
  if t.n < 1 ∨ 8191 < t.n then none
  else
    match (nextT l).2 with
    | .bad _ => none
    | .good g =>
      if g.kind ≠ 1 ∨ g.n < 0 ∨ 65535 < g.n then none
      else
        match (nextT (l.drop ((nextT l).1 + g.len))).2 with
        | .bad _ => none
        | .good w => if w.kind = 5 ∧ w.s = [82] then some (g.n, (l.drop ((nextT l).1 + g.len)).drop ((nextT (l.drop ((nextT l).1 + g.len))).1 + w.len)) else none

/-- The elements of an array; f reads one that begins with a token; the last number but one bounds the rounds. -/
def arrS (f : Tok → L → Res (Ob × L)) (d : Nat) : Nat → L → List Ob → Res (List Ob × L)
  | 0, _, _ => .bad 0
  | m + 1, l, acc =>
    match nextS l with
    | .bad e => .bad e
    | .good (t, r) =>
      if t.kind = 6 ∧ t.s = [93] then .good (acc, r)
      else if beginsS t = true ∧ 0 < d ∧ 8191 ≤ acc.length then .bad 6
      else
        match f t r with
        | .bad e => .bad e
        | .good (o, r2) => arrS f d m r2 (acc ++ [o])

/-- The pairs of a dictionary, in the order of the text. -/
def dictS (f : Tok → L → Res (Ob × L)) : Nat → L → List (L × Ob) → Res (List (L × Ob) × L)
  | 0, _, _ => .bad 0
  | m + 1, l, acc =>
    match nextS l with
    | .bad e => .bad e
    | .good (t, r) =>
      if t.kind = 6 ∧ t.s = [62, 62] then .good (acc, r)
      else if t.kind ≠ 4 then .bad 3
      else if (acc.any fun p => p.1 == t.s) = true then .bad 9
      else if 8191 ≤ acc.length then .bad 6
      else
        match nextS r with
        | .bad e => .bad e
        | .good (t2, r2) =>
          match f t2 r2 with
          | .bad e => .bad e
          | .good (o, r3) => dictS f m r3 (acc ++ [(t.s, o)])

/-- Byte lists in their order; sorting by insertion. -/
def leL : L → L → Bool
  | [], _ => true
  | _ :: _, [] => false
  | a :: x, b :: y => a < b || (a == b && leL x y)
def insL (k : L) : List L → List L
  | [] => [k]
  | x :: l => if leL k x then k :: x :: l else x :: insL k l
def isort (l : List L) : List L := l.foldr insL []
/-- The dictionary of pairs: those that are not null, by increasing keys. -/
def mkDict (ps : List (L × Ob)) : Ob :=
  let ks := isort ((ps.filter fun p => p.2.kind != 0).map (·.1))
  .mk 7 0 0 [] ks (ks.map fun k => ((ps.find? fun p => p.1 == k).map (·.2)).getD .zero)

/-- The object that begins with a token, where d levels more may open. -/
def objS : Nat → Tok → L → Res (Ob × L)
  | 0, t, _ => if beginsS t then .bad 7 else .bad 3
  | d + 1, t, l =>
    if beginsS t then
      if t.kind = 1 then
        match refS t l with
        | some (g, r) => .good (.ref t.n g, r)
        | none => .good (.int t.n, l)
      else if t.kind = 2 then .good (.real t.n, l)
      else if t.kind = 3 then .good (.str t.s, l)
      else if t.kind = 4 then .good (.name t.s, l)
      else if t.kind = 5 then .good (if t.s = wNull then .zero else .bool (t.s == wTrue), l)
      else if t.s = [91] then
        match arrS (objS d) d (l.length + 1) l [] with
        | .bad e => .bad e
        | .good (ks, r) => .good (.mk 6 0 0 [] [] ks, r)
      else
        match dictS (objS d) (l.length + 1) l [] with
        | .bad e => .bad e
        | .good (ps, r) => .good (mkDict ps, r)
    else .bad 3

/-- The object at the head of a text, and what follows it. -/
def readS (l : L) : Res (Ob × L) :=
  match nextS l with
  | .bad e => .bad e
  | .good (t, r) => objS 24 t r
end Fo
/- Plain Lean, no program: a token's bytes lie in the text; a token that is there has a kind. -/
namespace Fo

theorem skipN_le' (b : Bool) (l : L) : skipN b l ≤ l.length := by
  induction l generalizing b with
  | nil => cases b <;> simp [skipN]
  | cons c l ih =>
    cases b <;> simp only [skipN, List.length_cons]
    · have h1 := ih true; have h2 := ih false
      split
      · omega
      · split <;> omega
    · have := ih (!eol c); omega
theorem regN_le' (l : L) : regN l ≤ l.length := by
  induction l with
  | nil => simp [regN]
  | cons c l ih => simp only [regN, List.length_cons]; split <;> omega
theorem textS_len {acc : L} {n op k : Nat} {l : L} {x : L} {m : Nat} (h : textS acc n op k l = .good (x, m)) : n + 1 ≤ m ∧ m ≤ n + l.length := by
  induction l generalizing acc n op k with
  | nil => simp [textS] at h
  | cons c l ih =>
    cases k with
    | succ k => rw [textS] at h; have := ih h; simp; omega
    | zero =>
      rw [textS] at h
      simp only [List.length_cons]
      split at h
      · have := ih h; omega
      · split at h
        · split at h
          · cases h
          · have := ih h; omega
        · split at h
          · have := ih h; omega
          · split at h
            · split at h
              · cases h; omega
              · have := ih h; omega
            · have := ih h; omega
theorem hexS_len {acc : L} {n : Nat} {hf : Int} {l : L} {x : L} {m : Nat} (h : hexS acc n hf l = .good (x, m)) : n + 1 ≤ m ∧ m ≤ n + l.length := by
  induction l generalizing acc n hf with
  | nil => simp [hexS] at h
  | cons c l ih =>
    rw [hexS] at h
    simp only [List.length_cons]
    split at h
    · simp only [Res.good.injEq, Prod.mk.injEq] at h; omega
    · split at h
      · have := ih h; omega
      · split at h
        · cases h
        · split at h
          · have := ih h; omega
          · have := ih h; omega
theorem told_good {k : Int} {n : Nat} {x : L} {b : Nat} {t : Tok} (h : told k n x b = .good t) : t = ⟨k, n, 0, x⟩ ∧ x.length ≤ b := by
  unfold told at h; split at h
  · cases h
  · cases h; exact ⟨rfl, by omega⟩
theorem strOf_good {r : Res (L × Nat)} {t : Tok} (h : strOf r = .good t) : ∃ x m, r = .good (x, m) ∧ t = ⟨3, m + 1, 0, x⟩ ∧ x.length ≤ 32767 := by
  cases r with
  | bad e => cases h
  | good x => obtain ⟨h1, h2⟩ := told_good h; exact ⟨x.1, x.2, rfl, h1, h2⟩
theorem nameOf_good {n : Nat} {r : Res L} {t : Tok} (h : nameOf n r = .good t) : ∃ x, r = .good x ∧ t = ⟨4, n + 1, 0, x⟩ ∧ x.length ≤ 127 := by
  cases r with
  | bad e => cases h
  | good x => obtain ⟨h1, h2⟩ := told_good h; exact ⟨x, rfl, h1, h2⟩
theorem wordT_good {r : L} {t : Tok} (h : wordT r = .good t) : t.len = r.length ∧ (t.kind = 1 ∨ t.kind = 2 ∨ t.kind = 5) := by
  unfold wordT at h
  split at h
  · split at h
    · cases h
    · cases h; simp
  · split at h
    · split at h
      · cases h; simp
      · cases h
      · obtain ⟨rfl, _⟩ := told_good h; simp
    · obtain ⟨rfl, _⟩ := told_good h; simp
theorem tokT_good {l : L} {t : Tok} (h : tokT l = .good t) : t.len ≤ l.length ∧ 1 ≤ t.kind ∧ t.kind ≤ 6 := by
  cases l with
  | nil => cases h
  | cons c l =>
    unfold tokT at h
    dsimp only at h
    simp only [List.length_cons]
    split at h
    · cases h; simp
    · split at h
      · split at h
        · rename_i h2
          cases h
          cases l with
          | nil => simp at h2
          | cons => simp
        · obtain ⟨x, m, h1, rfl, _⟩ := strOf_good h
          have := hexS_len h1; simp; omega
      · split at h
        · split at h
          · rename_i h2
            cases h
            cases l with
            | nil => simp at h2
            | cons => simp
          · cases h
        · split at h
          · obtain ⟨x, h1, rfl, _⟩ := nameOf_good h
            have := regN_le' l; simp; omega
          · split at h
            · obtain ⟨x, m, h1, rfl, _⟩ := strOf_good h
              have := textS_len h1; simp; omega
            · split at h
              · cases h
              · obtain ⟨h1, h2⟩ := wordT_good h
                have : ((c :: l).take (regN (c :: l))).length ≤ (c :: l).length := (List.take_sublist _ _).length_le
                simp only [List.length_cons] at this
                rw [h1]; omega
theorem nextT_good {l : L} {t : Tok} (h : (nextT l).2 = .good t) : (nextT l).1 + t.len ≤ l.length ∧ 0 ≤ t.kind ∧ t.kind ≤ 6 ∧ (t.kind = 0 → t = ⟨0, 0, 0, []⟩) := by
  unfold nextT at *
  simp only at *
  have hs := skipN_le' false l
  split at h
  · cases h; simp; exact hs
  · obtain ⟨h1, h2, h3⟩ := tokT_good h
    simp only [List.length_drop] at h1
    exact ⟨by omega, by omega, h3, by omega⟩
theorem nextS_good {l : L} {t : Tok} {r : L} (h : nextS l = .good (t, r)) : (nextT l).2 = .good t ∧ t.kind ≠ 0 ∧ r = l.drop ((nextT l).1 + t.len) := by
  unfold nextS at h
  split at h
  · cases h
  · rename_i t' ht
    split at h
    · cases h
    · cases h; exact ⟨ht, by assumption, rfl⟩
theorem textS_bad {acc : L} {n op k : Nat} {l : L} {e : Int} (h : textS acc n op k l = .bad e) : e = 4 := by
  induction l generalizing acc n op k with
  | nil => cases k <;> simp [textS] at h <;> exact h.symm
  | cons c l ih =>
    cases k with
    | succ k => rw [textS] at h; exact ih h
    | zero =>
      rw [textS] at h
      split at h
      · exact ih h
      · split at h
        · split at h
          · cases h; rfl
          · exact ih h
        · split at h
          · exact ih h
          · split at h
            · split at h
              · cases h
              · exact ih h
            · exact ih h
theorem hexS_bad' {acc : L} {n : Nat} {hf : Int} {l : L} {e : Int} (h : hexS acc n hf l = .bad e) : e = 3 ∨ e = 4 := by
  induction l generalizing acc n hf with
  | nil => simp [hexS] at h; omega
  | cons c l ih =>
    rw [hexS] at h
    split at h
    · cases h
    · split at h
      · exact ih h
      · split at h
        · cases h; simp
        · split at h
          · exact ih h
          · exact ih h
theorem nameS_bad' {acc : L} {k : Nat} {l : L} {e : Int} (h : nameS acc k l = .bad e) : e = 3 := by
  induction l generalizing acc k with
  | nil => cases k <;> simp [nameS] at h
  | cons c l ih =>
    cases k with
    | succ k => rw [nameS] at h; exact ih h
    | zero =>
      by_cases hc : c = 35
      · subst hc
        cases l with
        | nil => simp [nameS] at h; exact h.symm
        | cons a l =>
          cases l with
          | nil => simp [nameS] at h; exact h.symm
          | cons b l =>
            simp only [nameS, beq_self_eq_true, if_true] at h
            split at h
            · cases h; rfl
            · exact ih (k := 2) (by rw [nameS, nameS]; exact h)
      · have hc2 : (c == 35) = false := by simpa using hc
        simp only [nameS, hc2, Bool.false_eq_true, if_false] at h
        exact ih h
theorem told_bad {k : Int} {n : Nat} {x : L} {b : Nat} {e : Int} (h : told k n x b = .bad e) : e = 5 := by
  unfold told at h; split at h
  · cases h; rfl
  · cases h
theorem fixV_bad {l : L} {e : Int} (h : fixV l = .bad e) : e = 2 ∨ e = 3 := by
  unfold fixV at h
  split at h
  · cases h; simp
  · split at h
    · cases h; simp
    · split at h
      · cases h; simp
      · dsimp only at h
        by_cases hb : 1073741824 < (if (if minus l then overHalf ((postDot (unsigned l)).drop 4) else atHalf ((postDot (unsigned l)).drop 4)) then val (preDot (unsigned l) ++ part4 (postDot (unsigned l))) + 1 else val (preDot (unsigned l) ++ part4 (postDot (unsigned l))))
        · rw [if_pos hb] at h; cases h; simp
        · rw [if_neg hb] at h; cases h
theorem wordT_bad {r : L} {e : Int} (h : wordT r = .bad e) : 2 ≤ e ∧ e ≤ 5 := by
  unfold wordT at h
  split at h
  · split at h
    · rename_i e' he
      cases h
      unfold wholeV at he
      split at he
      · cases he; omega
      · cases he
    · cases h
  · split at h
    · split at h
      · cases h
      · cases h; omega
      · have := told_bad h; omega
    · have := told_bad h; omega
theorem strOf_bad {r : Res (L × Nat)} {e : Int} (h : strOf r = .bad e) (hr : ∀ e, r = .bad e → 2 ≤ e ∧ e ≤ 5) : 2 ≤ e ∧ e ≤ 5 := by
  cases r with
  | bad e' => cases h; exact hr _ rfl
  | good x => have := told_bad h; omega
theorem tokT_bad {l : L} {e : Int} (hl : l ≠ []) (h : tokT l = .bad e) : 2 ≤ e ∧ e ≤ 5 := by
  cases l with
  | nil => exact absurd rfl hl
  | cons c l =>
    unfold tokT at h
    dsimp only at h
    split at h
    · cases h
    · split at h
      · split at h
        · cases h
        · exact strOf_bad h (fun e he => by have := hexS_bad' he; omega)
      · split at h
        · split at h
          · cases h
          · cases h; omega
        · split at h
          · unfold nameT at h
            cases hn : nameS [] 0 (l.take (regN l)) with
            | bad e' => rw [hn] at h; cases h; have := nameS_bad' hn; omega
            | good x => rw [hn] at h; have := told_bad h; omega
          · split at h
            · exact strOf_bad h (fun e he => by have := textS_bad he; omega)
            · split at h
              · cases h; omega
              · exact wordT_bad h
theorem nextT_bad {l : L} {e : Int} (h : (nextT l).2 = .bad e) : 2 ≤ e ∧ e ≤ 5 := by
  unfold nextT at h
  simp only at h
  split at h
  · cases h
  · exact tokT_bad (by assumption) h
theorem nextS_bad {l : L} {e : Int} (h : nextS l = .bad e) : (nextT l).2 = .bad e ∨ (e = 4 ∧ (nextT l).2 = .good ⟨0, 0, 0, []⟩) := by
  unfold nextS at h
  split at h
  · rename_i e' he; cases h; exact .inl he
  · rename_i t ht
    split at h
    · rename_i hk
      cases h
      have := (nextT_good ht).2.2.2 hk
      subst this
      exact .inr ⟨rfl, ht⟩
    · cases h
end Fo
/- Plain Lean, no program: the plain parser eats its text. -/
namespace Fo

theorem wordT_len {r : L} {t : Tok} (hr : r ≠ []) (h : wordT r = .good t) : 1 ≤ t.len := by
  have := (wordT_good h).1
  have := List.length_pos_iff.2 hr
  omega
theorem regN_pos {c : UInt8} {l : L} (h : regular c = true) : 1 ≤ regN (c :: l) := by simp [regN, h]
theorem tokT_pos {l : L} {t : Tok} (hl : ∀ c r, l = c :: r → white c = false ∧ c ≠ 37) (h : tokT l = .good t) : 1 ≤ t.len := by
  cases l with
  | nil => cases h
  | cons c l =>
    obtain ⟨hw, h37⟩ := hl c l rfl
    unfold tokT at h
    dsimp only at h
    split at h
    · cases h; simp
    · rename_i n1
      split at h
      · split at h
        · cases h; simp
        · obtain ⟨x, m, h1, rfl, _⟩ := strOf_good h; simp
      · rename_i n2
        split at h
        · split at h
          · cases h; simp
          · cases h
        · rename_i n3
          split at h
          · obtain ⟨x, h1, rfl, _⟩ := nameOf_good h; simp
          · rename_i n4
            split at h
            · obtain ⟨x, m, h1, rfl, _⟩ := strOf_good h; simp
            · rename_i n5
              split at h
              · cases h
              · rename_i n6
                have hreg : regular c = true := by
                  unfold regular
                  rw [hw]
                  simp only [Bool.not_false, Bool.true_and, Bool.not_eq_true', delim]
                  simp at n1 n2 n3 n4 n5 n6
                  simp [n1, n2, n3, n4, n5, n6, h37]
                have hp := regN_pos (l := l) hreg
                refine wordT_len ?_ h
                intro h0
                have := congrArg List.length h0
                simp at this
                omega
theorem skipN_stop (b : Bool) (l : L) : ∀ c r, l.drop (skipN b l) = c :: r → white c = false ∧ c ≠ 37 := by
  induction l generalizing b with
  | nil => cases b <;> simp [skipN]
  | cons c l ih =>
    cases b
    · simp only [skipN]
      split
      · rw [List.drop_succ_cons]; exact ih true
      · rename_i h37
        split
        · rw [List.drop_succ_cons]; exact ih false
        · rename_i hw
          intro c' r h
          simp only [List.drop_zero, List.cons.injEq] at h
          rw [← h.1]
          exact ⟨by simpa using hw, by simpa using h37⟩
    · simp only [skipN]
      rw [List.drop_succ_cons]; exact ih _
theorem nextS_shorter {l : L} {t : Tok} {r : L} (h : nextS l = .good (t, r)) : r.length < l.length ∧ 1 ≤ t.len := by
  obtain ⟨h1, h2, rfl⟩ := nextS_good h
  have h3 := (nextT_good h1).1
  have h4 : 1 ≤ t.len := by
    unfold nextT at h1
    simp only at h1
    split at h1
    · cases h1; exact absurd rfl h2
    · exact tokT_pos (skipN_stop false l) h1
  rw [List.length_drop]
  omega
theorem refS_shorter {t : Tok} {l : L} {g : Int} {r : L} (h : refS t l = some (g, r)) : r.length ≤ l.length := by
  unfold refS at h
  split at h
  · cases h
  · split at h
    · cases h
    · split at h
      · cases h
      · split at h
        · cases h
        · split at h
          · simp only [Option.some.injEq, Prod.mk.injEq] at h
            rw [← h.2, List.length_drop, List.length_drop]; omega
          · cases h
theorem arrS_shorter {f : Tok → L → Res (Ob × L)} (hf : ∀ t l o r, f t l = .good (o, r) → r.length ≤ l.length) {d : Nat} :
    ∀ {m : Nat} {l : L} {acc ks : List Ob} {r : L}, arrS f d m l acc = .good (ks, r) → r.length ≤ l.length
  | 0, _, _, _, _, h => by cases h
  | m + 1, l, acc, ks, r, h => by
    rw [arrS] at h
    split at h
    · cases h
    · rename_i t r1 h1
      have := (nextS_shorter h1).1
      split at h
      · cases h; omega
      · split at h
        · cases h
        · split at h
          · cases h
          · rename_i o r2 h2
            have h3 := hf _ _ _ _ h2
            have := arrS_shorter hf h
            omega
theorem dictS_shorter {f : Tok → L → Res (Ob × L)} (hf : ∀ t l o r, f t l = .good (o, r) → r.length ≤ l.length) :
    ∀ {m : Nat} {l : L} {acc ks : List (L × Ob)} {r : L}, dictS f m l acc = .good (ks, r) → r.length ≤ l.length
  | 0, _, _, _, _, h => by cases h
  | m + 1, l, acc, ks, r, h => by
    rw [dictS] at h
    split at h
    · cases h
    · rename_i t r1 h1
      have := (nextS_shorter h1).1
      split at h
      · cases h; omega
      · split at h
        · cases h
        · split at h
          · cases h
          · split at h
            · cases h
            · split at h
              · cases h
              · rename_i t2 r2 h2
                have := (nextS_shorter h2).1
                split at h
                · cases h
                · rename_i o r3 h3
                  have := hf _ _ _ _ h3
                  have := dictS_shorter hf h
                  omega
theorem objS_shorter : ∀ (d : Nat) (t : Tok) (l : L) (o : Ob) (r : L), objS d t l = .good (o, r) → r.length ≤ l.length
  | 0, t, l, o, r, h => by
    rw [objS] at h; split at h <;> cases h
  | d + 1, t, l, o, r, h => by
    rw [objS] at h
    split at h
    · split at h
      · split at h
        · rename_i g r' h2
          cases h; exact refS_shorter h2
        · cases h; exact Nat.le_refl _
      · split at h
        · cases h; exact Nat.le_refl _
        · split at h
          · cases h; exact Nat.le_refl _
          · split at h
            · cases h; exact Nat.le_refl _
            · split at h
              · simp only [Res.good.injEq, Prod.mk.injEq] at h; rw [h.2]; exact Nat.le_refl _
              · split at h
                · split at h
                  · cases h
                  · rename_i h2; cases h; exact arrS_shorter (objS_shorter d) h2
                · split at h
                  · cases h
                  · rename_i h2; cases h; exact dictS_shorter (objS_shorter d) h2
    · cases h
end Fo
