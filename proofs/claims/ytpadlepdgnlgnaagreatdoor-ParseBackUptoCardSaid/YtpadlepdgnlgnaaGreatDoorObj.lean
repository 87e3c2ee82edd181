/- Plain Lean, no program: objects, and what the parser computes on the rest of a text. -/
import Derived.Test.YtpadlepdgnlgnaaGreatDoorSpec
set_option linter.all false
namespace Fo

/-- An object: kind, N, G, S, keys, kids. -/
inductive Ob where
  | mk (kind n g : Int) (s : L) (keys : List L) (kids : List Ob)

def Ob.kind : Ob → Int | .mk k _ _ _ _ _ => k
def Ob.n : Ob → Int | .mk _ n _ _ _ _ => n
def Ob.g : Ob → Int | .mk _ _ g _ _ _ => g
def Ob.s : Ob → L | .mk _ _ _ s _ _ => s
def Ob.keys : Ob → List L | .mk _ _ _ _ k _ => k
def Ob.kids : Ob → List Ob | .mk _ _ _ _ _ k => k
def Ob.zero : Ob := .mk 0 0 0 [] [] []
def Ob.int (n : Int) : Ob := .mk 2 n 0 [] [] []
def Ob.real (n : Int) : Ob := .mk 3 n 0 [] [] []
def Ob.str (s : L) : Ob := .mk 4 0 0 s [] []
def Ob.name (s : L) : Ob := .mk 5 0 0 s [] []
def Ob.ref (n g : Int) : Ob := .mk 8 n g [] [] []
def Ob.bool (b : Bool) : Ob := .mk 1 (if b then 1 else 0) 0 [] [] []

def wTrue : L := [116, 114, 117, 101]
def wFalse : L := [102, 97, 108, 115, 101]
def wNull : L := [110, 117, 108, 108]

/-- The next token, which must be there, and what follows it. -/
def nextS (l : L) : Res (Tok × L) :=
  match (nextT l).2 with
  | .bad e => .bad e
  | .good t => if t.kind = 0 then .bad 4 else .good (t, l.drop ((nextT l).1 + t.len))

def beginsS (t : Tok) : Bool :=
  if t.kind = 5 then t.s == wTrue || t.s == wFalse || t.s == wNull
  else if t.kind = 6 then t.s == [91] || t.s == [60, 60]
  else true

/-- The reference whose number is the token t: its generation, and what follows it. -/
def refS (t : Tok) (l : L) : Option (Int × L) :=
  if t.n < 1 ∨ 8191 < t.n then none
  else
    match (nextT l).2 with
    | .bad _ => none
    | .good g =>
      if g.kind ≠ 1 ∨ g.n < 0 ∨ 65535 < g.n then none
      else
        match (nextT (l.drop ((nextT l).1 + g.len))).2 with
        | .bad _ => none
        | .good w => if w.kind = 5 ∧ w.s = [82] then some (g.n, (l.drop ((nextT l).1 + g.len)).drop ((nextT (l.drop ((nextT l).1 + g.len))).1 + w.len)) else none

/-- The elements of an array; f reads one that begins with a token; the last number but one bounds the rounds. -/
def arrS (f : Tok → L → Res (Ob × L)) (d : Nat) : Nat → L → List Ob → Res (List Ob × L)
  | 0, _, _ => .bad 0
  | m + 1, l, acc =>
    match nextS l with
    | .bad e => .bad e
    | .good (t, r) =>
      if t.kind = 6 ∧ t.s = [93] then .good (acc, r)
      else if beginsS t = true ∧ 0 < d ∧ 8191 ≤ acc.length then .bad 6
      else
        match f t r with
        | .bad e => .bad e
        | .good (o, r2) => arrS f d m r2 (acc ++ [o])

/-- The pairs of a dictionary, in the order of the text. -/
def dictS (f : Tok → L → Res (Ob × L)) : Nat → L → List (L × Ob) → Res (List (L × Ob) × L)
  | 0, _, _ => .bad 0
  | m + 1, l, acc =>
    match nextS l with
    | .bad e => .bad e
    | .good (t, r) =>
      if t.kind = 6 ∧ t.s = [62, 62] then .good (acc, r)
      else if t.kind ≠ 4 then .bad 3
      else if (acc.any fun p => p.1 == t.s) = true then .bad 9
      else if 8191 ≤ acc.length then .bad 6
      else
        match nextS r with
        | .bad e => .bad e
        | .good (t2, r2) =>
          match f t2 r2 with
          | .bad e => .bad e
          | .good (o, r3) => dictS f m r3 (acc ++ [(t.s, o)])

/-- Byte lists in their order; sorting by insertion. -/
def leL : L → L → Bool
  | [], _ => true
  | _ :: _, [] => false
  | a :: x, b :: y => a < b || (a == b && leL x y)
def insL (k : L) : List L → List L
  | [] => [k]
  | x :: l => if leL k x then k :: x :: l else x :: insL k l
def isort (l : List L) : List L := l.foldr insL []
/-- The dictionary of pairs: those that are not null, by increasing keys. -/
def mkDict (ps : List (L × Ob)) : Ob :=
  let ks := isort ((ps.filter fun p => p.2.kind != 0).map (·.1))
  .mk 7 0 0 [] ks (ks.map fun k => ((ps.find? fun p => p.1 == k).map (·.2)).getD .zero)

/-- The object that begins with a token, where d levels more may open. -/
def objS : Nat → Tok → L → Res (Ob × L)
  | 0, t, _ => if beginsS t then .bad 7 else .bad 3
  | d + 1, t, l =>
    if beginsS t then
      if t.kind = 1 then
        match refS t l with
        | some (g, r) => .good (.ref t.n g, r)
        | none => .good (.int t.n, l)
      else if t.kind = 2 then .good (.real t.n, l)
      else if t.kind = 3 then .good (.str t.s, l)
      else if t.kind = 4 then .good (.name t.s, l)
      else if t.kind = 5 then .good (if t.s = wNull then .zero else .bool (t.s == wTrue), l)
      else if t.s = [91] then
        match arrS (objS d) d (l.length + 1) l [] with
        | .bad e => .bad e
        | .good (ks, r) => .good (.mk 6 0 0 [] [] ks, r)
      else
        match dictS (objS d) (l.length + 1) l [] with
        | .bad e => .bad e
        | .good (ps, r) => .good (mkDict ps, r)
    else .bad 3

/-- The object at the head of a text, and what follows it. -/
def readS (l : L) : Res (Ob × L) :=
  match nextS l with
  | .bad e => .bad e
  | .good (t, r) => objS 24 t r
end Fo
