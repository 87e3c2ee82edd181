/- Plain Lean, no program: what the lexer's and the number reader's functions compute, said on lists of bytes. -/
set_option linter.all false
namespace Fo
abbrev L := List UInt8

def white (c : UInt8) : Bool := c == 0 || c == 9 || c == 10 || c == 12 || c == 13 || c == 32
def delim (c : UInt8) : Bool := c == 40 || c == 41 || c == 60 || c == 62 || c == 91 || c == 93 || c == 123 || c == 125 || c == 47 || c == 37
def regular (c : UInt8) : Bool := !white c && !delim c
def eol (c : UInt8) : Bool := c == 13 || c == 10

/-- The value of a hexadecimal digit, or -1. -/
def digit (c : Nat) : Int :=
  if 48 ≤ c ∧ c ≤ 57 then c - 48 else if 65 ≤ c ∧ c ≤ 70 then c - 65 + 10 else if 97 ≤ c ∧ c ≤ 102 then c - 97 + 10 else -1
def hexv (c : UInt8) : Int := digit c.toNat

/-- How many bytes are white space or comment, from here on; the flag: inside a comment. -/
def skipN : Bool → L → Nat
  | _, [] => 0
  | true, c :: l => skipN (!eol c) l + 1
  | false, c :: l => if c == 37 then skipN true l + 1 else if white c then skipN false l + 1 else 0

/-- How many bytes up to and with the next end of line. -/
def lineN : L → Nat
  | [] => 0
  | 13 :: 10 :: _ => 2
  | c :: l => if eol c then 1 else lineN l + 1

def regN : L → Nat
  | [] => 0
  | c :: l => if regular c then regN l + 1 else 0

/-- A token, its place said from the first byte of the token: kind, number of bytes, N, S. -/
structure Tok where
  kind : Int
  len : Nat
  n : Int
  s : L

/-- An answer or an error's code. -/
inductive Res (α : Type) where
  | bad (e : Int)
  | good (a : α)

def told (kind : Int) (len : Nat) (text : L) (most : Nat) : Res Tok :=
  if most < text.length then .bad 5 else .good ⟨kind, len, 0, text⟩

/-- The bytes of a name behind its slash; the number: how many bytes are still to be passed over. -/
def nameS : L → Nat → L → Res L
  | acc, _, [] => .good acc
  | acc, k + 1, _ :: l => nameS acc k l
  | acc, 0, c :: l =>
    if c == 35 then
      match l with
      | a :: b :: _ => if hexv a < 0 ∨ hexv b < 0 ∨ 16 * hexv a + hexv b = 0 then .bad 3 else nameS (acc ++ [UInt8.ofNat (16 * hexv a + hexv b).toNat]) 2 l
      | _ => .bad 3
    else nameS (acc ++ [c]) 0 l

def nameOf (n : Nat) : Res L → Res Tok
  | .bad e => .bad e
  | .good x => told 4 (n + 1) x 127
def nameT (l : L) : Res Tok := nameOf (regN l) (nameS [] 0 (l.take (regN l)))
/-- The token of a string whose bytes, and whose length in the text behind its first sign, are told. -/
def strOf : Res (L × Nat) → Res Tok
  | .bad e => .bad e
  | .good x => told 3 (x.2 + 1) x.1 32767

/-- What a backslash stands for, and how many bytes behind it that takes. -/
def oct (c : UInt8) : Bool := 48 ≤ c && c ≤ 55
def octN : Nat → Nat → Nat → L → Nat × Nat
  | 0, v, n, _ => (v, n)
  | _ + 1, v, n, [] => (v, n)
  | k + 1, v, n, c :: l => if oct c then octN k (8 * v + (c.toNat - 48)) (n + 1) l else (v, n)
def esc : L → L × Nat
  | [] => ([], 0)
  | c :: l =>
    if c == 110 then ([10], 1) else if c == 114 then ([13], 1) else if c == 116 then ([9], 1) else if c == 98 then ([8], 1) else if c == 102 then ([12], 1)
    else if eol c then ([], lineN (c :: l))
    else if (octN 3 0 0 (c :: l)).2 = 0 then ([c], 1) else ([UInt8.ofNat (octN 3 0 0 (c :: l)).1], (octN 3 0 0 (c :: l)).2)

/-- A literal string behind its first parenthesis: what was gathered, how many bytes were read, how many parentheses are open, how many bytes are still to be passed over. -/
def textS : L → Nat → Nat → Nat → L → Res (L × Nat)
  | _, _, _, _, [] => .bad 4
  | acc, n, op, k + 1, _ :: l => textS acc (n + 1) op k l
  | acc, n, op, 0, c :: l =>
    if eol c then textS (acc ++ [10]) (n + 1) op (lineN (c :: l) - 1) l
    else if c == 92 then (if l = [] then .bad 4 else textS (acc ++ (esc l).1) (n + 1) op (esc l).2 l)
    else if c == 40 then textS (acc ++ [c]) (n + 1) (op + 1) 0 l
    else if c == 41 then (if op = 1 then .good (acc, n + 1) else textS (acc ++ [c]) (n + 1) (op - 1) 0 l)
    else textS (acc ++ [c]) (n + 1) op 0 l

def textT (l : L) : Res Tok := strOf (textS [] 0 1 0 l)

/-- A hexadecimal string behind its bracket; 'half': the digit that waits for its second, or -1. -/
def hexS : L → Nat → Int → L → Res (L × Nat)
  | _, _, _, [] => .bad 4
  | acc, n, half, c :: l =>
    if c == 62 then .good (if 0 ≤ half then acc ++ [UInt8.ofNat (16 * half).toNat] else acc, n + 1)
    else if white c then hexS acc (n + 1) half l
    else if hexv c < 0 then .bad 3
    else if half < 0 then hexS acc (n + 1) (hexv c) l
    else hexS (acc ++ [UInt8.ofNat (16 * half + hexv c).toNat]) (n + 1) (-1) l

def hexT (l : L) : Res Tok := strOf (hexS [] 0 (-1) l)

def isDig (c : UInt8) : Bool := 48 ≤ c && c ≤ 57
def sign (c : UInt8) : Bool := c == 43 || c == 45
def allDig (l : L) : Bool := l.all isDig
def unsigned : L → L
  | [] => []
  | c :: l => if sign c then l else c :: l
def isInt (l : L) : Bool := !(unsigned l).isEmpty && allDig (unsigned l)
def val (l : L) : Nat := l.foldl (fun v c => 10 * v + (c.toNat - 48)) 0
def minus (l : L) : Bool := l.head? == some 45
def wholeV (l : L) : Res Int :=
  if 2147483647 < val (unsigned l) then .bad 2 else .good (if minus l then -(val (unsigned l) : Int) else val (unsigned l))

/-- The digits ahead of the first period, and those behind it. -/
def preDot (l : L) : L := l.takeWhile (· != 46)
def postDot (l : L) : L := (l.dropWhile (· != 46)).drop 1
/-- Do digits, read as those of a fraction, lie above one half, at least at one half? -/
def atHalf (l : L) : Bool := match l with | [] => false | c :: _ => 53 ≤ c
def overHalf (l : L) : Bool := match l with | [] => false | c :: r => 53 < c || (c == 53 && r.any (· != 48))
def part4 (l : L) : L := (l ++ [48, 48, 48, 48]).take 4
/-- The number that a text reads as, in units. -/
def fixV (l : L) : Res Int :=
  if 40 < l.length then .bad 3
  else if (preDot (unsigned l) ++ postDot (unsigned l)).isEmpty then .bad 3
  else if !allDig (preDot (unsigned l)) || !allDig (postDot (unsigned l)) then .bad 3
  else
    let m := val (preDot (unsigned l) ++ part4 (postDot (unsigned l)))
    let m := if (if minus l then overHalf ((postDot (unsigned l)).drop 4) else atHalf ((postDot (unsigned l)).drop 4)) then m + 1 else m
    if 1073741824 < m then .bad 2 else .good (if minus l then -(m : Int) else m)

/-- A run of regular bytes: a number or a word. -/
def wordT (r : L) : Res Tok :=
  if isInt r then (match wholeV r with | .bad e => .bad e | .good n => .good ⟨1, r.length, n, []⟩)
  else if r.contains 46 then
    (match fixV r with
      | .good n => .good ⟨2, r.length, n, []⟩
      | .bad 2 => .bad 2
      | .bad _ => told 5 r.length r 127)
  else told 5 r.length r 127

/-- The token that begins with the first byte, which is neither white space nor a comment's. -/
def tokT : L → Res Tok
  | [] => .bad 0
  | c :: l =>
    if c == 91 || c == 93 || c == 123 || c == 125 then .good ⟨6, 1, 0, [c]⟩
    else if c == 60 then (if l.head? = some 60 then .good ⟨6, 2, 0, [60, 60]⟩ else hexT l)
    else if c == 62 then (if l.head? = some 62 then .good ⟨6, 2, 0, [62, 62]⟩ else .bad 3)
    else if c == 47 then nameT l
    else if c == 40 then textT l
    else if c == 41 then .bad 3
    else wordT ((c :: l).take (regN (c :: l)))

/-- The next token: how many bytes lie ahead of it, and itself. -/
def nextT (l : L) : Nat × Res Tok :=
  (skipN false l, if l.drop (skipN false l) = [] then .good ⟨0, 0, 0, []⟩ else tokT (l.drop (skipN false l)))
end Fo
