/- Parts of the proof: GPlA Shelf ShelfB. -/
import Derived.Shelf.Strings.Builder1
import Derived.Shelf.Strings.Builder2
import Derived.Shelf.Strings.Trim
import Derived.Shelf.Small.Utf8
import Derived.Shelf.Small.Strs
import Derived.Shelf.Strings.BuilderF
import Derived.Shelf.Strings.BuilderK
import Derived.Shelf.Strings.Builder2Cap
import Derived.Shelf.Strconv.Itoa0
import Derived.Shelf.Strconv.Itoa1
import Derived.Shelf.LaysM
import Derived.Shelf.Strconv.Itoa2
import Derived.Shelf.Strconv.Itoa3
import Derived.Shelf.Strconv.Itoa4
import Derived.Shelf.Strings.Search1
import Derived.Shelf.Strings.Prefix
import Derived.Shelf.Strings.Runes
import Derived.Shelf.Strings.AsciiSet
import Derived.Shelf.Bits.Mul64
import Derived.Shelf.Strings.Repeat
import Derived.Shelf.Unicode.DecodeSlow
import Derived.Shelf.Strings.BuilderCap
import Derived.Shelf.Slices.Turned
import Derived.Ground.Names2Prog
import Derived.Shelf.Slices.Clone
import Derived.Test.YtfgdhcemidlnfaaGreatDoorProg
import Derived.Shelf.Strings.SlTrimAscii
set_option linter.all false
set_option maxRecDepth 100000
set_option maxHeartbeats 8000000
namespace Fo
abbrev L:=List UInt8
def white (c : UInt8) : Bool:=c == 0 || c == 9 || c == 10 || c == 12 || c == 13 || c == 32
def delim (c : UInt8) : Bool:=c == 40 || c == 41 || c == 60 || c == 62 || c == 91 || c == 93 || c == 123 || c == 125 || c == 47 || c == 37
def regular (c : UInt8) : Bool:=!white c && !delim c
def eol (c : UInt8) : Bool:=c == 13 || c == 10
def digit (c : Nat) : Int :=
 if 48 ≤ c ∧ c ≤ 57 then c - 48 else if 65 ≤ c ∧ c ≤ 70 then c - 65 + 10 else if 97 ≤ c ∧ c ≤ 102 then c - 97 + 10 else -1
def hexv (c : UInt8) : Int:=digit c.toNat
def skipN : Bool → L → Nat
 | _,[] => 0
 | true,c :: l => skipN (!eol c) l + 1
 | false,c :: l => if c == 37 then skipN true l + 1 else if white c then skipN false l + 1 else 0
def lineN : L → Nat
 | [] => 0
 | 13 :: 10 :: _ => 2
 | c :: l => if eol c then 1 else lineN l + 1
def regN : L → Nat
 | [] => 0
 | c :: l => if regular c then regN l + 1 else 0
structure Tok where
 kind : Int
 len : Nat
 n : Int
 s : L
inductive Res (α : Type) where
 | bad (e : Int)
 | good (a : α)
def told (kind : Int) (len : Nat) (text : L) (most : Nat) : Res Tok :=
 if most < text.length then .bad 5 else .good ⟨kind,len,0,text⟩
def nameS : L → Nat → L → Res L
 | acc,_,[] => .good acc
 | acc,k + 1,_ :: l => nameS acc k l
 | acc,0,c :: l =>
   if c == 35 then
     match l with
     | a :: b :: _ => if hexv a < 0 ∨ hexv b < 0 ∨ 16 * hexv a + hexv b = 0 then .bad 3 else nameS (acc ++ [UInt8.ofNat (16 * hexv a + hexv b).toNat]) 2 l
     | _ => .bad 3
   else nameS (acc ++ [c]) 0 l
def nameOf (n : Nat) : Res L → Res Tok
 | .bad e => .bad e
 | .good x => told 4 (n + 1) x 127
def nameT (l : L) : Res Tok:=nameOf (regN l) (nameS [] 0 (l.take (regN l)))
def strOf : Res (L × Nat) → Res Tok
 | .bad e => .bad e
 | .good x => told 3 (x.2 + 1) x.1 32767
def oct (c : UInt8) : Bool:=48 ≤ c && c ≤ 55
def octN : Nat → Nat → Nat → L → Nat × Nat
 | 0,v,n,_ => (v,n)
 | _ + 1,v,n,[] => (v,n)
 | k + 1,v,n,c :: l => if oct c then octN k (8 * v + (c.toNat - 48)) (n + 1) l else (v,n)
def esc : L → L × Nat
 | [] => ([],0)
 | c :: l =>
   if c == 110 then ([10],1) else if c == 114 then ([13],1) else if c == 116 then ([9],1) else if c == 98 then ([8],1) else if c == 102 then ([12],1)
   else if eol c then ([],lineN (c :: l))
   else if (octN 3 0 0 (c :: l)).2 = 0 then ([c],1) else ([UInt8.ofNat (octN 3 0 0 (c :: l)).1],(octN 3 0 0 (c :: l)).2)
def textS : L → Nat → Nat → Nat → L → Res (L × Nat)
 | _,_,_,_,[] => .bad 4
 | acc,n,op,k + 1,_ :: l => textS acc (n + 1) op k l
 | acc,n,op,0,c :: l =>
   if eol c then textS (acc ++ [10]) (n + 1) op (lineN (c :: l) - 1) l
   else if c == 92 then (if l = [] then .bad 4 else textS (acc ++ (esc l).1) (n + 1) op (esc l).2 l)
   else if c == 40 then textS (acc ++ [c]) (n + 1) (op + 1) 0 l
   else if c == 41 then (if op = 1 then .good (acc,n + 1) else textS (acc ++ [c]) (n + 1) (op - 1) 0 l)
   else textS (acc ++ [c]) (n + 1) op 0 l
def textT (l : L) : Res Tok:=strOf (textS [] 0 1 0 l)
def hexS : L → Nat → Int → L → Res (L × Nat)
 | _,_,_,[] => .bad 4
 | acc,n,half,c :: l =>
   if c == 62 then .good (if 0 ≤ half then acc ++ [UInt8.ofNat (16 * half).toNat] else acc,n + 1)
   else if white c then hexS acc (n + 1) half l
   else if hexv c < 0 then .bad 3
   else if half < 0 then hexS acc (n + 1) (hexv c) l
   else hexS (acc ++ [UInt8.ofNat (16 * half + hexv c).toNat]) (n + 1) (-1) l
def hexT (l : L) : Res Tok:=strOf (hexS [] 0 (-1) l)
def isDig (c : UInt8) : Bool:=48 ≤ c && c ≤ 57
def sign (c : UInt8) : Bool:=c == 43 || c == 45
def allDig (l : L) : Bool:=l.all isDig
def unsigned : L → L
 | [] => []
 | c :: l => if sign c then l else c :: l
def isInt (l : L) : Bool:=!(unsigned l).isEmpty && allDig (unsigned l)
def val (l : L) : Nat:=l.foldl (fun v c => 10 * v + (c.toNat - 48)) 0
def minus (l : L) : Bool:=l.head? == some 45
def wholeV (l : L) : Res Int :=
 if 2147483647 < val (unsigned l) then .bad 2 else .good (if minus l then -(val (unsigned l) : Int) else val (unsigned l))
def preDot (l : L) : L:=l.takeWhile (· != 46)
def postDot (l : L) : L:=(l.dropWhile (· != 46)).drop 1
def atHalf (l : L) : Bool:=match l with | [] => false | c :: _ => 53 ≤ c
def overHalf (l : L) : Bool:=match l with | [] => false | c :: r => 53 < c || (c == 53 && r.any (· != 48))
def part4 (l : L) : L:=(l ++ [48,48,48,48]).take 4
def fixV (l : L) : Res Int :=
 if 40 < l.length then .bad 3
 else if (preDot (unsigned l) ++ postDot (unsigned l)).isEmpty then .bad 3
 else if !allDig (preDot (unsigned l)) || !allDig (postDot (unsigned l)) then .bad 3
 else
   let m:=val (preDot (unsigned l) ++ part4 (postDot (unsigned l)))
   let m:=if (if minus l then overHalf ((postDot (unsigned l)).drop 4) else atHalf ((postDot (unsigned l)).drop 4)) then m + 1 else m
   if 1073741824 < m then .bad 2 else .good (if minus l then -(m : Int) else m)
def wordT (r : L) : Res Tok :=
 if isInt r then (match wholeV r with | .bad e => .bad e | .good n => .good ⟨1,r.length,n,[]⟩)
 else if r.contains 46 then
   (match fixV r with
     | .good n => .good ⟨2,r.length,n,[]⟩
     | .bad 2 => .bad 2
     | .bad _ => told 5 r.length r 127)
 else told 5 r.length r 127
def tokT : L → Res Tok
 | [] => .bad 0
 | c :: l =>
   if c == 91 || c == 93 || c == 123 || c == 125 then .good ⟨6,1,0,[c]⟩
   else if c == 60 then (if l.head? = some 60 then .good ⟨6,2,0,[60,60]⟩ else hexT l)
   else if c == 62 then (if l.head? = some 62 then .good ⟨6,2,0,[62,62]⟩ else .bad 3)
   else if c == 47 then nameT l
   else if c == 40 then textT l
   else if c == 41 then .bad 3
   else wordT ((c :: l).take (regN (c :: l)))
def nextT (l : L) : Nat × Res Tok :=
 (skipN false l,if l.drop (skipN false l) = [] then .good ⟨0,0,0,[]⟩ else tokT (l.drop (skipN false l)))
inductive Ob where
 | mk (kind n g : Int) (s : L) (keys : List L) (kids : List Ob)
def Ob.kind : Ob → Int | .mk k _ _ _ _ _ => k
def Ob.n : Ob → Int | .mk _ n _ _ _ _ => n
def Ob.g : Ob → Int | .mk _ _ g _ _ _ => g
def Ob.s : Ob → L | .mk _ _ _ s _ _ => s
def Ob.keys : Ob → List L | .mk _ _ _ _ k _ => k
def Ob.kids : Ob → List Ob | .mk _ _ _ _ _ k => k
def Ob.zero : Ob:=.mk 0 0 0 [] [] []
def Ob.int (n : Int) : Ob:=.mk 2 n 0 [] [] []
def Ob.real (n : Int) : Ob:=.mk 3 n 0 [] [] []
def Ob.str (s : L) : Ob:=.mk 4 0 0 s [] []
def Ob.name (s : L) : Ob:=.mk 5 0 0 s [] []
def Ob.ref (n g : Int) : Ob:=.mk 8 n g [] [] []
def Ob.bool (b : Bool) : Ob:=.mk 1 (if b then 1 else 0) 0 [] [] []
def wTrue : L:=[116,114,117,101]
def wFalse : L:=[102,97,108,115,101]
def wNull : L:=[110,117,108,108]
def nextS (l : L) : Res (Tok × L) :=
 match (nextT l).2 with
 | .bad e => .bad e
 | .good t => if t.kind = 0 then .bad 4 else .good (t,l.drop ((nextT l).1 + t.len))
def beginsS (t : Tok) : Bool :=
 if t.kind = 5 then t.s == wTrue || t.s == wFalse || t.s == wNull
 else if t.kind = 6 then t.s == [91] || t.s == [60,60]
 else true
def refS (t : Tok) (l : L) : Option (Int × L) :=
 if t.n < 1 ∨ 8191 < t.n then none
 else
   match (nextT l).2 with
   | .bad _ => none
   | .good g =>
     if g.kind ≠ 1 ∨ g.n < 0 ∨ 65535 < g.n then none
     else
       match (nextT (l.drop ((nextT l).1 + g.len))).2 with
       | .bad _ => none
       | .good w => if w.kind = 5 ∧ w.s = [82] then some (g.n,(l.drop ((nextT l).1 + g.len)).drop ((nextT (l.drop ((nextT l).1 + g.len))).1 + w.len)) else none
def arrS (f : Tok → L → Res (Ob × L)) (d : Nat) : Nat → L → List Ob → Res (List Ob × L)
 | 0,_,_ => .bad 0
 | m + 1,l,acc =>
   match nextS l with
   | .bad e => .bad e
   | .good (t,r) =>
     if t.kind = 6 ∧ t.s = [93] then .good (acc,r)
     else if beginsS t = true ∧ 0 < d ∧ 8191 ≤ acc.length then .bad 6
     else
       match f t r with
       | .bad e => .bad e
       | .good (o,r2) => arrS f d m r2 (acc ++ [o])
def dictS (f : Tok → L → Res (Ob × L)) : Nat → L → List (L × Ob) → Res (List (L × Ob) × L)
 | 0,_,_ => .bad 0
 | m + 1,l,acc =>
   match nextS l with
   | .bad e => .bad e
   | .good (t,r) =>
     if t.kind = 6 ∧ t.s = [62,62] then .good (acc,r)
     else if t.kind ≠ 4 then .bad 3
     else if (acc.any fun p => p.1 == t.s) = true then .bad 9
     else if 8191 ≤ acc.length then .bad 6
     else
       match nextS r with
       | .bad e => .bad e
       | .good (t2,r2) =>
         match f t2 r2 with
         | .bad e => .bad e
         | .good (o,r3) => dictS f m r3 (acc ++ [(t.s,o)])
def leL : L → L → Bool
 | [],_ => true
 | _ :: _,[] => false
 | a :: x,b :: y => a < b || (a == b && leL x y)
def insL (k : L) : List L → List L
 | [] => [k]
 | x :: l => if leL k x then k :: x :: l else x :: insL k l
def isort (l : List L) : List L:=l.foldr insL []
def mkDict (ps : List (L × Ob)) : Ob :=
 let ks:=isort ((ps.filter fun p => p.2.kind != 0).map (·.1))
 .mk 7 0 0 [] ks (ks.map fun k => ((ps.find? fun p => p.1 == k).map (·.2)).getD .zero)
def objS : Nat → Tok → L → Res (Ob × L)
 | 0,t,_ => if beginsS t then .bad 7 else .bad 3
 | d + 1,t,l =>
   if beginsS t then
     if t.kind = 1 then
       match refS t l with
       | some (g,r) => .good (.ref t.n g,r)
       | none => .good (.int t.n,l)
     else if t.kind = 2 then .good (.real t.n,l)
     else if t.kind = 3 then .good (.str t.s,l)
     else if t.kind = 4 then .good (.name t.s,l)
     else if t.kind = 5 then .good (if t.s = wNull then .zero else .bool (t.s == wTrue),l)
     else if t.s = [91] then
       match arrS (objS d) d (l.length + 1) l [] with
       | .bad e => .bad e
       | .good (ks,r) => .good (.mk 6 0 0 [] [] ks,r)
     else
       match dictS (objS d) (l.length + 1) l [] with
       | .bad e => .bad e
       | .good (ps,r) => .good (mkDict ps,r)
   else .bad 3
def readS (l : L) : Res (Ob × L) :=
 match nextS l with
 | .bad e => .bad e
 | .good (t,r) => objS 24 t r
theorem told_good {k : Int} {n : Nat} {x : L} {b : Nat} {t : Tok} (h : told k n x b = .good t) : t = ⟨k,n,0,x⟩ ∧ x.length ≤ b:=by
 unfold told at h;split at h
 · cases h
 · cases h;exact ⟨rfl,by omega⟩
theorem strOf_good {r : Res (L × Nat)} {t : Tok} (h : strOf r = .good t) : ∃ x m,r = .good (x,m) ∧ t = ⟨3,m + 1,0,x⟩ ∧ x.length ≤ 32767:=by
 cases r with
 | bad e => cases h
 | good x => obtain ⟨h1,h2⟩:=told_good h;exact ⟨x.1,x.2,rfl,h1,h2⟩
theorem nameOf_good {n : Nat} {r : Res L} {t : Tok} (h : nameOf n r = .good t) : ∃ x,r = .good x ∧ t = ⟨4,n + 1,0,x⟩ ∧ x.length ≤ 127:=by
 cases r with
 | bad e => cases h
 | good x => obtain ⟨h1,h2⟩:=told_good h;exact ⟨x,rfl,h1,h2⟩
theorem wordT_good {r : L} {t : Tok} (h : wordT r = .good t) : t.len = r.length ∧ (t.kind = 1 ∨ t.kind = 2 ∨ t.kind = 5):=by
 unfold wordT at h
 split at h
 · split at h
   · cases h
   · cases h;simp
 · split at h
   · split at h
     · cases h;simp
     · cases h
     · obtain ⟨rfl,_⟩:=told_good h;simp
   · obtain ⟨rfl,_⟩:=told_good h;simp
theorem nextS_good {l : L} {t : Tok} {r : L} (h : nextS l = .good (t,r)) : (nextT l).2 = .good t ∧ t.kind ≠ 0 ∧ r = l.drop ((nextT l).1 + t.len):=by
 unfold nextS at h
 split at h
 · cases h
 · rename_i t' ht
   split at h
   · cases h
   · cases h;exact ⟨ht,by assumption,rfl⟩
theorem leL_iff (x y : L) : leL x y = true ↔ x ≤ y:=by
 induction x generalizing y with
 | nil => simp [leL]
 | cons a x ih =>
   cases y with
   | nil => simp [leL]
   | cons b y =>
     rw [List.cons_le_cons_iff]
     simp [leL,ih]
theorem insL_perm (k : L) (l : List L) : (insL k l).Perm (k :: l):=by
 induction l with
 | nil => exact List.Perm.refl _
 | cons x l ih =>
   unfold insL;split
   · exact List.Perm.refl _
   · exact (List.Perm.cons x ih).trans (List.Perm.swap k x l)
theorem isort_perm (l : List L) : (isort l).Perm l:=by
 induction l with
 | nil => exact List.Perm.refl _
 | cons x l ih => exact (insL_perm x _).trans (List.Perm.cons x ih)
theorem insL_sorted (k : L) (l : List L) (h : l.Pairwise (· ≤ ·)) : (insL k l).Pairwise (· ≤ ·):=by
 induction l with
 | nil => simp [insL]
 | cons x l ih =>
   unfold insL
   obtain ⟨h1,h2⟩:=List.pairwise_cons.1 h
   split
   · rename_i hle
     rw [leL_iff] at hle
     refine List.pairwise_cons.2 ⟨fun y hy => ?_,h⟩
     rcases List.mem_cons.1 hy with rfl | hy
     · exact hle
     · exact List.le_trans hle (h1 y hy)
   · rename_i hle
     rw [leL_iff] at hle
     refine List.pairwise_cons.2 ⟨fun y hy => ?_,ih h2⟩
     rcases List.mem_cons.1 ((insL_perm k l).mem_iff.1 hy) with rfl | hy
     · rcases List.le_total x y with h | h
       · exact h
       · exact absurd h hle
     · exact h1 y hy
theorem isort_sorted (l : List L) : (isort l).Pairwise (· ≤ ·):=by
 induction l with
 | nil => exact List.Pairwise.nil
 | cons x l ih => exact insL_sorted x _ ih
theorem isort_of_perm {l l' : List L} (h : l.Perm l') (hs : l'.Pairwise (· ≤ ·)) : l' = isort l:=by
 refine List.Perm.eq_of_pairwise (le:=fun a b => a ≤ b) (fun a b _ _ h1 h2 => List.le_antisymm h1 h2) hs (isort_sorted l) (h.symm.trans (isort_perm l).symm)
def zeroB (o : Ob) (n g s list : Bool) : Bool:=(n || o.n == 0) && (g || o.g == 0) && (s || o.s.isEmpty) && (list || (o.keys.isEmpty && o.kids.isEmpty))
def nameB (s : L) : Bool:=s.all (· != 0) && decide (s.length ≤ 127)
def usesB (o : Ob) : Bool :=
 if o.kind = 0 then zeroB o false false false false
 else if o.kind = 1 ∨ o.kind = 2 ∨ o.kind = 3 then zeroB o true false false false
 else if o.kind = 4 ∨ o.kind = 5 then zeroB o false false true false
 else if o.kind = 6 then zeroB o false false false true && o.keys.isEmpty
 else if o.kind = 7 then zeroB o false false false true
 else if o.kind = 8 then zeroB o true true false false
 else if o.kind = 9 then zeroB o false false true true
 else false
def fitsB (o : Ob) : Bool :=
 if o.kind = 1 then o.n == 0 || o.n == 1
 else if o.kind = 2 then decide (-2147483647 ≤ o.n) && decide (o.n ≤ 2147483647)
 else if o.kind = 3 then decide (-1073741824 ≤ o.n) && decide (o.n ≤ 1073741824)
 else if o.kind = 8 then decide (1 ≤ o.n) && decide (o.n ≤ 8191) && decide (0 ≤ o.g) && decide (o.g ≤ 65535)
 else true
def longB (k : Int) : Nat:=if k = 5 then 127 else if k = 9 then 1048576 else 32767
def wLength : L:=[76,101,110,103,116,104]
def keyAt (o : Ob) (i : Nat) : Bool :=
 nameB (o.keys.getD i []) && (i == 0 || decide (o.keys.getD (i - 1) [] < o.keys.getD i [])) && !(o.keys.getD i [] == wLength && o.kind == 9) && (o.kids.getD i .zero).kind != 0
def keysB (o : Ob) : Bool :=
 if o.kind = 5 then nameB o.s
 else if o.kind ≠ 7 ∧ o.kind ≠ 9 then true
 else o.keys.length == o.kids.length && (List.range o.keys.length).all (keyAt o)
def firstBad (l : List Int) : Int:=(l.find? (· != 0)).getD 0
def checkB : Nat → Ob → Int
 | 0,_ => 7
 | n + 1,o =>
   if !usesB o || (o.kind == 9 && n != 23) then 10
   else if !fitsB o then 2
   else if longB o.kind < o.s.length then 5
   else if 8191 < o.kids.length then 6
   else if !keysB o then 3
   else firstBad (o.kids.map (checkB n))
def okO : Nat → Ob → Prop
 | 0,_ => False
 | d + 1,o => usesB o = true ∧ o.kind ≠ 9 ∧ fitsB o = true ∧ o.s.length ≤ longB o.kind ∧ o.kids.length ≤ 8191 ∧ keysB o = true ∧ ∀ k ∈ o.kids,okO d k
theorem firstBad_zero {l : List Int} (h : ∀ x ∈ l,x = 0) : firstBad l = 0:=by
 unfold firstBad
 rw [List.find?_eq_none.2 (fun x hx => by simp [h x hx])];rfl
theorem okO_check : ∀ (d : Nat) (o : Ob),okO d o → checkB d o = 0
 | 0,_,h => h.elim
 | d + 1,o,h => by
   obtain ⟨h1,h2,h3,h4,h5,h6,h7⟩:=h
   have h2' : (o.kind == 9) = false:=by simpa using h2
   unfold checkB
   rw [h1,h2',h3,h6]
   simp only [Bool.not_true,Bool.false_and,Bool.or_self,Bool.false_eq_true,if_false]
   rw [if_neg (by omega),if_neg (by omega)]
   refine firstBad_zero fun x hx => ?_
   obtain ⟨k,hk,rfl⟩:=List.mem_map.1 hx
   exact okO_check d k (h7 k hk)
def tokOk (t : Tok) : Prop :=
 (t.kind = 1 → -2147483647 ≤ t.n ∧ t.n ≤ 2147483647) ∧ (t.kind = 2 → -1073741824 ≤ t.n ∧ t.n ≤ 1073741824) ∧ (t.kind = 3 → t.s.length ≤ 32767) ∧ (t.kind = 4 → nameB t.s = true)
theorem wholeV_good {l : L} {n : Int} (h : wholeV l = .good n) : -2147483647 ≤ n ∧ n ≤ 2147483647:=by
 unfold wholeV at h
 split at h
 · cases h
 · cases h;split <;> omega
theorem fixV_good {l : L} {n : Int} (h : fixV l = .good n) : -1073741824 ≤ n ∧ n ≤ 1073741824:=by
 unfold fixV at h
 split at h
 · cases h
 · split at h
   · cases h
   · split at h
     · cases h
     · dsimp only at h
       generalize (if (if minus l then overHalf ((postDot (unsigned l)).drop 4) else atHalf ((postDot (unsigned l)).drop 4)) then val (preDot (unsigned l) ++ part4 (postDot (unsigned l))) + 1 else val (preDot (unsigned l) ++ part4 (postDot (unsigned l)))) = m at h
       by_cases hb : 1073741824 < m
       · rw [if_pos hb] at h;cases h
       · rw [if_neg hb] at h;cases h;split <;> omega
theorem tokOk_other {t : Tok} (h : t.kind ≠ 1 ∧ t.kind ≠ 2 ∧ t.kind ≠ 3 ∧ t.kind ≠ 4) : tokOk t :=
 ⟨fun x => absurd x h.1,fun x => absurd x h.2.1,fun x => absurd x h.2.2.1,fun x => absurd x h.2.2.2⟩
theorem wordT_ok {r : L} {t : Tok} (h : wordT r = .good t) : tokOk t:=by
 unfold wordT at h
 split at h
 · split at h
   · cases h
   · rename_i n hn
     cases h
     exact ⟨fun _ => wholeV_good hn,fun h => by simp at h,fun h => by simp at h,fun h => by simp at h⟩
 · split at h
   · split at h
     · rename_i n hn
       cases h
       exact ⟨fun h => by simp at h,fun _ => fixV_good hn,fun h => by simp at h,fun h => by simp at h⟩
     · cases h
     · obtain ⟨rfl,_⟩:=told_good h
       exact tokOk_other (by simp)
   · obtain ⟨rfl,_⟩:=told_good h
     exact tokOk_other (by simp)
theorem hexv_lt (c : UInt8) : hexv c < 16:=by
 unfold hexv digit;split
 · omega
 · split
   · omega
   · split <;> omega
theorem nameS_ok {acc : L} {k : Nat} {l x : L} (h : nameS acc k l = .good x) (ha : ∀ c ∈ acc,c ≠ 0) (hl : ∀ c ∈ l,c ≠ 0) : ∀ c ∈ x,c ≠ 0:=by
 induction l generalizing acc k with
 | nil => cases k <;> simp only [nameS,Res.good.injEq] at h <;> subst h <;> exact ha
 | cons c l ih =>
   have hl' : ∀ c ∈ l,c ≠ 0:=fun c hc => hl c (by simp [hc])
   cases k with
   | succ k => rw [nameS] at h;exact ih h ha hl'
   | zero =>
     by_cases hc : c = 35
     · subst hc
       cases l with
       | nil => simp [nameS] at h
       | cons a l =>
         cases l with
         | nil => simp [nameS] at h
         | cons b l =>
           simp only [nameS,beq_self_eq_true,if_true] at h
           split at h
           · cases h
           · rename_i hab
             refine ih (k:=2) (by rw [nameS,nameS];exact h) ?_ hl'
             intro c hc
             rw [List.mem_append] at hc
             rcases hc with hc | hc
             · exact ha c hc
             · simp only [List.mem_singleton] at hc
               subst hc
               intro h0
               have h1:=congrArg UInt8.toNat h0
               have e1:=hexv_lt a
               have e2:=hexv_lt b
               simp at h1
               omega
     · have hc2 : (c == 35) = false:=by simpa using hc
       simp only [nameS,hc2,Bool.false_eq_true,if_false] at h
       refine ih h ?_ hl'
       intro x hx
       rw [List.mem_append] at hx
       rcases hx with hx | hx
       · exact ha x hx
       · simp only [List.mem_singleton] at hx;subst hx;exact hl x (by simp)
theorem regN_reg (l : L) : ∀ c ∈ l.take (regN l),regular c = true:=by
 induction l with
 | nil => simp
 | cons c l ih =>
   unfold regN
   split
   · rename_i h
     intro x hx
     rw [List.take_succ_cons] at hx
     rcases List.mem_cons.1 hx with rfl | hx
     · exact h
     · exact ih x hx
   · simp
theorem regular_ne {c : UInt8} (h : regular c = true) : c ≠ 0:=by
 rintro rfl;revert h;decide
theorem tokT_ok {l : L} {t : Tok} (h : tokT l = .good t) : tokOk t:=by
 cases l with
 | nil => cases h
 | cons c l =>
   unfold tokT at h
   dsimp only at h
   split at h
   · cases h;exact tokOk_other (by simp)
   · split at h
     · split at h
       · cases h;exact tokOk_other (by simp)
       · obtain ⟨x,m,h1,rfl,h2⟩:=strOf_good h
         exact ⟨fun h => by simp at h,fun h => by simp at h,fun _ => h2,fun h => by simp at h⟩
     · split at h
       · split at h
         · cases h;exact tokOk_other (by simp)
         · cases h
       · split at h
         · obtain ⟨x,h1,rfl,h2⟩:=nameOf_good h
           refine ⟨fun h => by simp at h,fun h => by simp at h,fun h => by simp at h,fun _ => ?_⟩
           have:=nameS_ok h1 (by simp) (fun c hc => regular_ne (regN_reg l c hc))
           simp only [nameB,Bool.and_eq_true,decide_eq_true_eq,List.all_eq_true,bne_iff_ne]
           exact ⟨this,h2⟩
         · split at h
           · obtain ⟨x,m,h1,rfl,h2⟩:=strOf_good h
             exact ⟨fun h => by simp at h,fun h => by simp at h,fun _ => h2,fun h => by simp at h⟩
           · split at h
             · cases h
             · exact wordT_ok h
theorem u8_every (p : UInt8 → Bool) (h : (List.range 256).all (fun n => p (UInt8.ofNat n)) = true) (c : UInt8) : p c = true:=by
 have:=List.all_eq_true.1 h c.toNat (List.mem_range.2 (UInt8.toNat_lt c))
 simpa using this
def hexD (n : Nat) : UInt8:=if n < 10 then UInt8.ofNat (48 + n) else UInt8.ofNat (55 + n)
theorem hexD_val (c : UInt8) : hexv (hexD (c.toNat / 16)) = (c.toNat / 16 : Nat) ∧ hexv (hexD (c.toNat % 16)) = (c.toNat % 16 : Nat):=by
 have:=u8_every (fun c => hexv (hexD (c.toNat / 16)) == (c.toNat / 16 : Nat) && hexv (hexD (c.toNat % 16)) == (c.toNat % 16 : Nat)) (by decide +kernel) c
 simpa using this
theorem regN_run (x : L) (c : UInt8) (r : L) (hx : ∀ a ∈ x,regular a = true) (hc : regular c = false) : regN (x ++ c :: r) = x.length:=by
 induction x with
 | nil => simp [regN,hc]
 | cons a x ih =>
   have h1:=hx a (by simp)
   have h2:=ih (fun b hb => hx b (by simp [hb]))
   simp only [List.cons_append,regN,h1,if_true,h2,List.length_cons]
theorem oct_val (c : UInt8) : octN 3 0 0 [UInt8.ofNat (48 + c.toNat / 64), UInt8.ofNat (48 + c.toNat / 8 % 8), UInt8.ofNat (48 + c.toNat % 8)] = (c.toNat, 3) ∧
   oct (UInt8.ofNat (48 + c.toNat / 64)) = true ∧ oct (UInt8.ofNat (48 + c.toNat / 8 % 8)) = true ∧ oct (UInt8.ofNat (48 + c.toNat % 8)) = true:=by
 have:=u8_every (fun c => octN 3 0 0 [UInt8.ofNat (48 + c.toNat / 64),UInt8.ofNat (48 + c.toNat / 8 % 8),UInt8.ofNat (48 + c.toNat % 8)] == (c.toNat,3) &&
   oct (UInt8.ofNat (48 + c.toNat / 64)) && oct (UInt8.ofNat (48 + c.toNat / 8 % 8)) && oct (UInt8.ofNat (48 + c.toNat % 8))) (by decide +kernel) c
 simp only [Bool.and_eq_true,beq_iff_eq] at this
 obtain ⟨⟨⟨h1,h2⟩,h3⟩,h4⟩:=this
 exact ⟨h1,h2,h3,h4⟩
theorem oct_plain (c : UInt8) (h : oct c = true) : c ≠ 110 ∧ c ≠ 114 ∧ c ≠ 116 ∧ c ≠ 98 ∧ c ≠ 102 ∧ eol c = false:=by
 have:=u8_every (fun c => !oct c || (c != 110 && c != 114 && c != 116 && c != 98 && c != 102 && !eol c)) (by decide +kernel) c
 rw [h] at this
 simp at this
 obtain ⟨⟨⟨⟨⟨h1,h2⟩,h3⟩,h4⟩,h5⟩,h6⟩:=this
 exact ⟨h1,h2,h3,h4,h5,h6⟩
theorem octN_three (a b c : UInt8) (l : L) (ha : oct a = true) (hb : oct b = true) (hc : oct c = true) : octN 3 0 0 (a :: b :: c :: l) = octN 3 0 0 [a,b,c]:=by
 simp [octN,ha,hb,hc]
theorem esc_three (c : UInt8) (l : L) : esc (UInt8.ofNat (48 + c.toNat / 64) :: UInt8.ofNat (48 + c.toNat / 8 % 8) :: UInt8.ofNat (48 + c.toNat % 8) :: l) = ([c],3):=by
 obtain ⟨h1,h2,h3,h4⟩:=oct_val c
 have hp:=oct_plain _ h2
 have h5:=octN_three _ _ _ l h2 h3 h4
 rw [h1] at h5
 unfold esc
 simp only [hp.1,hp.2.1,hp.2.2.1,hp.2.2.2.1,hp.2.2.2.2.1,hp.2.2.2.2.2,beq_eq_false_iff_ne.2,Bool.false_eq_true,if_false,ne_eq,not_false_eq_true,h5]
 simp
def sep (c : UInt8) : Prop:=c = 32 ∨ c = 10
theorem regular_plain (c : UInt8) (h : regular c = true) : c ≠ 37 ∧ white c = false ∧ c ≠ 91 ∧ c ≠ 93 ∧ c ≠ 123 ∧ c ≠ 125 ∧ c ≠ 60 ∧ c ≠ 62 ∧ c ≠ 47 ∧ c ≠ 40 ∧ c ≠ 41:=by
 have:=u8_every (fun c => !regular c || (c != 37 && !white c && c != 91 && c != 93 && c != 123 && c != 125 && c != 60 && c != 62 && c != 47 && c != 40 && c != 41)) (by decide +kernel) c
 rw [h] at this
 simp at this
 obtain ⟨⟨⟨⟨⟨⟨⟨⟨⟨⟨h1,h2⟩,h3⟩,h4⟩,h5⟩,h6⟩,h7⟩,h8⟩,h9⟩,h10⟩,h11⟩:=this
 exact ⟨h1,h2,h3,h4,h5,h6,h7,h8,h9,h10,h11⟩
def digU (n : Nat) : L:=if n < 10 then [UInt8.ofNat (48 + n)] else digU (n / 10) ++ [UInt8.ofNat (48 + n % 10)]
decreasing_by omega
def digI (n : Int) : L:=if n < 0 then 45 :: digU n.natAbs else digU n.natAbs
theorem dig_one (n : Nat) (h : n < 10) : isDig (UInt8.ofNat (48 + n)) = true ∧ (UInt8.ofNat (48 + n)).toNat - 48 = n ∧ sign (UInt8.ofNat (48 + n)) = false ∧ regular (UInt8.ofNat (48 + n)) = true ∧ UInt8.ofNat (48 + n) ≠ 46:=by
 have h2 : n = 0 ∨ n = 1 ∨ n = 2 ∨ n = 3 ∨ n = 4 ∨ n = 5 ∨ n = 6 ∨ n = 7 ∨ n = 8 ∨ n = 9:=by omega
 rcases h2 with rfl | rfl | rfl | rfl | rfl | rfl | rfl | rfl | rfl | rfl <;> decide
theorem val_snoc (l : L) (c : UInt8) : val (l ++ [c]) = 10 * val l + (c.toNat - 48):=by unfold val;rw [List.foldl_append];rfl
theorem digU_ok (n : Nat) : allDig (digU n) = true ∧ val (digU n) = n ∧ digU n ≠ [] ∧ (∀ c ∈ digU n,regular c = true ∧ c ≠ 46 ∧ sign c = false):=by
 induction n using Nat.strongRecOn with
 | _ n ih =>
   unfold digU
   by_cases h : n < 10
   · rw [if_pos h]
     obtain ⟨h1,h2,h3,h4,h5⟩:=dig_one n h
     refine ⟨by simp only [allDig,List.all_cons,h1];rfl,by unfold val;simp only [List.foldl_cons,List.foldl_nil,h2];omega,by simp,?_⟩
     intro c hc
     simp only [List.mem_singleton] at hc
     subst hc;exact ⟨h4,h5,h3⟩
   · rw [if_neg h]
     obtain ⟨g1,g2,g3,g4⟩:=ih (n / 10) (by omega)
     obtain ⟨h1,h2,h3,h4,h5⟩:=dig_one (n % 10) (by omega)
     refine ⟨?_,?_,by simp,?_⟩
     · unfold allDig at *;rw [List.all_append,g1];simp only [List.all_cons,h1];rfl
     · rw [val_snoc,g2,h2];omega
     · intro c hc
       rcases List.mem_append.1 hc with hc | hc
       · exact g4 c hc
       · simp only [List.mem_singleton] at hc;subst hc;exact ⟨h4,h5,h3⟩
theorem unsigned_no {l : L} (h : ∀ c ∈ l,sign c = false) : unsigned l = l:=by
 cases l with
 | nil => rfl
 | cons c l => simp [unsigned,h c (by simp)]
theorem minus_no {l : L} (h : ∀ c ∈ l,sign c = false) : minus l = false:=by
 cases l with
 | nil => rfl
 | cons c l =>
   have:=h c (by simp)
   have h2 : c ≠ 45:=fun h2 => by subst h2;simp [sign] at this
   simp [minus,h2]
theorem digI_ok (n : Int) (h1 : -2147483647 ≤ n) (h2 : n ≤ 2147483647) : wordT (digI n) = .good ⟨1,(digI n).length,n,[]⟩ ∧ (∀ c ∈ digI n,regular c = true) ∧ digI n ≠ []:=by
 obtain ⟨g1,g2,g3,g4⟩:=digU_ok n.natAbs
 unfold digI
 by_cases h : n < 0
 · rw [if_pos h]
   have hu : unsigned (45 :: digU n.natAbs) = digU n.natAbs:=by simp [unsigned,sign]
   have hi : isInt (45 :: digU n.natAbs) = true:=by unfold isInt;rw [hu,g1];simp [g3]
   have hm : minus (45 :: digU n.natAbs) = true:=by simp [minus]
   refine ⟨?_,?_,by simp⟩
   · unfold wordT wholeV
     rw [if_pos hi,hu,g2,if_neg (by omega),if_pos hm]
     dsimp only
     congr 2;omega
   · intro c hc
     rcases List.mem_cons.1 hc with rfl | hc
     · decide
     · exact (g4 c hc).1
 · rw [if_neg h]
   have hu:=unsigned_no (fun c hc => (g4 c hc).2.2)
   have hi : isInt (digU n.natAbs) = true:=by unfold isInt;rw [hu,g1];simp [g3]
   have hm:=minus_no (fun c hc => (g4 c hc).2.2)
   refine ⟨?_,fun c hc => (g4 c hc).1,g3⟩
   unfold wordT wholeV
   rw [if_pos hi,hu,g2,if_neg (by omega),hm]
   simp only [Bool.false_eq_true,if_false]
   congr 2;omega
def trim4 (a b c d : Nat) : L :=
 if d ≠ 0 then [UInt8.ofNat (48 + a),UInt8.ofNat (48 + b),UInt8.ofNat (48 + c),UInt8.ofNat (48 + d)]
 else if c ≠ 0 then [UInt8.ofNat (48 + a),UInt8.ofNat (48 + b),UInt8.ofNat (48 + c)]
 else if b ≠ 0 then [UInt8.ofNat (48 + a),UInt8.ofNat (48 + b)] else [UInt8.ofNat (48 + a)]
def fracT (m : Nat) : L:=trim4 (m / 1000 % 10) (m / 100 % 10) (m / 10 % 10) (m % 10)
def realU (m : Nat) : L:=digU (m / 10000) ++ 46 :: fracT m
def realT (n : Int) : L:=if n < 0 then 45 :: realU n.natAbs else realU n.natAbs
theorem fracT_ok (m : Nat) : allDig (fracT m) = true ∧ part4 (fracT m) = [UInt8.ofNat (48 + m / 1000 % 10),UInt8.ofNat (48 + m / 100 % 10),UInt8.ofNat (48 + m / 10 % 10),UInt8.ofNat (48 + m % 10)] ∧ (fracT m).length ≤ 4 ∧ 1 ≤ (fracT m).length ∧ (∀ c ∈ fracT m,regular c = true):=by
 obtain ⟨a1,_,_,a4,_⟩:=dig_one (m / 1000 % 10) (by omega)
 obtain ⟨b1,_,_,b4,_⟩:=dig_one (m / 100 % 10) (by omega)
 obtain ⟨c1,_,_,c4,_⟩:=dig_one (m / 10 % 10) (by omega)
 obtain ⟨d1,_,_,d4,_⟩:=dig_one (m % 10) (by omega)
 unfold fracT trim4
 by_cases hd : m % 10 = 0
 · by_cases hc : m / 10 % 10 = 0
   · by_cases hb : m / 100 % 10 = 0
     · simp only [hd,hc,hb,ne_eq,not_true,if_false]
       exact ⟨by simp only [allDig,List.all_cons,a1];rfl,by simp [part4],by simp,by simp,by intro x hx;simp only [List.mem_cons,List.not_mem_nil,or_false] at hx;rcases hx with rfl;assumption⟩
     · simp only [hd,hc,hb,ne_eq,not_true,if_false,not_false_eq_true,if_true]
       exact ⟨by simp only [allDig,List.all_cons,a1,b1];rfl,by simp [part4],by simp,by simp,by intro x hx;simp only [List.mem_cons,List.not_mem_nil,or_false] at hx;rcases hx with rfl | rfl <;> assumption⟩
   · simp only [hd,hc,ne_eq,not_true,if_false,not_false_eq_true,if_true]
     exact ⟨by simp only [allDig,List.all_cons,a1,b1,c1];rfl,by simp [part4],by simp,by simp,by intro x hx;simp only [List.mem_cons,List.not_mem_nil,or_false] at hx;rcases hx with rfl | rfl | rfl <;> assumption⟩
 · rw [if_pos hd]
   exact ⟨by simp only [allDig,List.all_cons,a1,b1,c1,d1];rfl,by simp [part4],by simp,by simp,by intro x hx;simp only [List.mem_cons,List.not_mem_nil,or_false] at hx;rcases hx with rfl | rfl | rfl | rfl <;> assumption⟩
theorem digU_len (n : Nat) (k : Nat) (h : n < 10 ^ (k + 1)) : (digU n).length ≤ k + 1:=by
 induction k generalizing n with
 | zero => unfold digU;rw [if_pos (by simpa using h)];simp
 | succ k ih =>
   unfold digU
   by_cases h1 : n < 10
   · rw [if_pos h1];simp
   · rw [if_neg h1]
     have:=ih (n / 10) (by rw [Nat.pow_succ] at h;omega)
     simp;omega
theorem val_part (l : L) (m : Nat) (h : val l = m / 10000) : val (l ++ [UInt8.ofNat (48 + m / 1000 % 10),UInt8.ofNat (48 + m / 100 % 10),UInt8.ofNat (48 + m / 10 % 10),UInt8.ofNat (48 + m % 10)]) = m:=by
 have e : l ++ [UInt8.ofNat (48 + m / 1000 % 10),UInt8.ofNat (48 + m / 100 % 10),UInt8.ofNat (48 + m / 10 % 10),UInt8.ofNat (48 + m % 10)] = (((l ++ [UInt8.ofNat (48 + m / 1000 % 10)]) ++ [UInt8.ofNat (48 + m / 100 % 10)]) ++ [UInt8.ofNat (48 + m / 10 % 10)]) ++ [UInt8.ofNat (48 + m % 10)]:=by simp
 rw [e,val_snoc,val_snoc,val_snoc,val_snoc,h,(dig_one (m / 1000 % 10) (by omega)).2.1,(dig_one (m / 100 % 10) (by omega)).2.1,(dig_one (m / 10 % 10) (by omega)).2.1,(dig_one (m % 10) (by omega)).2.1]
 omega
theorem realU_parts (m : Nat) : preDot (realU m) = digU (m / 10000) ∧ postDot (realU m) = fracT m:=by
 obtain ⟨_,_,_,g4⟩:=digU_ok (m / 10000)
 have h1 : ∀ c ∈ digU (m / 10000),(c != 46) = true:=fun c hc => by simpa using (g4 c hc).2.1
 unfold preDot postDot realU
 constructor
 · rw [List.takeWhile_append_of_pos h1];simp
 · rw [List.dropWhile_append_of_pos h1];simp
theorem realT_ok (n : Int) (h1 : -1073741824 ≤ n) (h2 : n ≤ 1073741824) : wordT (realT n) = .good ⟨2,(realT n).length,n,[]⟩ ∧ (∀ c ∈ realT n,regular c = true) ∧ realT n ≠ []:=by
 obtain ⟨g1,g2,g3,g4⟩:=digU_ok (n.natAbs / 10000)
 obtain ⟨f1,f2,f3,f4,f5⟩:=fracT_ok n.natAbs
 obtain ⟨p1,p2⟩:=realU_parts n.natAbs
 have hlen:=digU_len (n.natAbs / 10000) 7 (by omega)
 have hreg : ∀ c ∈ realU n.natAbs,regular c = true:=by
   intro c hc
   unfold realU at hc
   rcases List.mem_append.1 hc with hc | hc
   · exact (g4 c hc).1
   · rcases List.mem_cons.1 hc with rfl | hc
     · decide
     · exact f5 c hc
 have hdot : (realU n.natAbs).contains 46 = true:=by unfold realU;simp
 have hlenU : (realU n.natAbs).length ≤ 13:=by unfold realU;simp;omega
 have hint : allDig (realU n.natAbs) = false:=by
   unfold realU allDig;rw [List.all_append];simp [isDig]
 have hne : realU n.natAbs ≠ []:=by unfold realU;simp
 have hval : val (preDot (realU n.natAbs) ++ part4 (postDot (realU n.natAbs))) = n.natAbs:=by
   rw [p1,p2,f2];exact val_part _ _ g2
 have hd4 : (postDot (realU n.natAbs)).drop 4 = []:=by rw [p2];exact List.drop_eq_nil_of_le f3
 have hok : (preDot (realU n.natAbs) ++ postDot (realU n.natAbs)).isEmpty = false:=by rw [p1,p2];simp [g3]
 have had : (!allDig (preDot (realU n.natAbs)) || !allDig (postDot (realU n.natAbs))) = false:=by rw [p1,p2,g1,f1];rfl
 unfold realT
 by_cases h : n < 0
 · rw [if_pos h]
   have hu : unsigned (45 :: realU n.natAbs) = realU n.natAbs:=by simp [unsigned,sign]
   have hm : minus (45 :: realU n.natAbs) = true:=by simp [minus]
   have hi : isInt (45 :: realU n.natAbs) = false:=by unfold isInt;rw [hu,hint];simp
   have hf : fixV (45 :: realU n.natAbs) = .good n:=by
     unfold fixV
     rw [if_neg (by simp;omega),hu,hok,had,hval,hd4,hm]
     simp only [Bool.false_eq_true,if_false,if_true,overHalf]
     rw [if_neg (by omega)]
     congr 1;omega
   refine ⟨?_,?_,by simp⟩
   · unfold wordT
     rw [hi,hf]
     have : (45 :: realU n.natAbs).contains 46 = true:=by rw [List.contains_cons,hdot];simp
     rw [this];simp
   · intro c hc
     rcases List.mem_cons.1 hc with rfl | hc
     · decide
     · exact hreg c hc
 · rw [if_neg h]
   have hs : ∀ c ∈ realU n.natAbs,sign c = false:=by
     intro c hc
     unfold realU at hc
     rcases List.mem_append.1 hc with hc | hc
     · exact (g4 c hc).2.2
     · rcases List.mem_cons.1 hc with rfl | hc
       · decide
       · have:=List.all_eq_true.1 f1 c hc
         have h3:=u8_every (fun c => !isDig c || !sign c) (by decide +kernel) c
         rw [this] at h3;simpa using h3
   have hu:=unsigned_no hs
   have hm:=minus_no hs
   have hi : isInt (realU n.natAbs) = false:=by unfold isInt;rw [hu,hint];simp
   have hf : fixV (realU n.natAbs) = .good n:=by
     unfold fixV
     rw [if_neg (by omega),hu,hok,had,hval,hd4,hm]
     simp only [Bool.false_eq_true,if_false,atHalf]
     rw [if_neg (by omega)]
     congr 1;omega
   refine ⟨?_,hreg,hne⟩
   unfold wordT
   rw [hi,hf,hdot];simp
theorem skip_sep (c : UInt8) (l : L) (hc : sep c) : skipN false (c :: l) = skipN false l + 1:=by
 rcases hc with rfl | rfl <;> simp [skipN,white]
theorem nextT_sep (c : UInt8) (l : L) (hc : sep c) : nextT (c :: l) = ((nextT l).1 + 1,(nextT l).2):=by
 unfold nextT
 rw [skip_sep c l hc]
 simp only [List.drop_succ_cons]
theorem nextS_sep (c : UInt8) (l : L) (hc : sep c) : nextS (c :: l) = nextS l:=by
 unfold nextS
 rw [nextT_sep c l hc]
 dsimp only
 cases (nextT l).2 with
 | bad e => rfl
 | good t =>
   dsimp only
   rw [show (nextT l).1 + 1 + t.len = ((nextT l).1 + t.len) + 1 by omega,List.drop_succ_cons]
def fol (r : L) : Prop:=∀ t,(nextT r).2 = .good t → ¬ (t.kind = 5 ∧ t.s = [82])
def fre (r : L) : Prop:=∀ t,refS t r = none
theorem fol_of {r l : L} {t : Tok} (h : nextS r = .good (t,l)) (hk : ¬ (t.kind = 5 ∧ t.s = [82])) : fol r:=by
 intro t' ht
 have:=(nextS_good h).1
 rw [ht] at this;cases this;exact hk
theorem fre_of {r l : L} {t : Tok} (h : nextS r = .good (t,l)) (hk : t.kind ≠ 1) : fre r:=by
 intro u
 have h2:=(nextS_good h).1
 unfold refS
 split
 · rfl
 · rw [h2];dsimp only;rw [if_pos (.inl hk)]
theorem fre_int {r l : L} {t : Tok} (h : nextS r = .good (t,l)) (hf : fol l) : fre r:=by
 intro u
 obtain ⟨h2,_,h3⟩:=nextS_good h
 unfold refS
 split
 · rfl
 · rw [h2]
   dsimp only
   split
   · rfl
   · rw [← h3]
     cases hn : (nextT l).2 with
     | bad e => rfl
     | good w => dsimp only;rw [if_neg (hf w hn)]
theorem next_mark1 (c : UInt8) (l : L) (h : c = 91 ∨ c = 93) : nextS (c :: l) = .good (⟨6,1,0,[c]⟩,l):=by
 rcases h with rfl | rfl
 · have h1 : skipN false (91 :: l) = 0:=by simp [skipN,white]
   unfold nextS nextT;rw [h1];simp [tokT]
 · have h1 : skipN false (93 :: l) = 0:=by simp [skipN,white]
   unfold nextS nextT;rw [h1];simp [tokT]
theorem next_mark2 (c : UInt8) (l : L) (h : c = 60 ∨ c = 62) : nextS (c :: c :: l) = .good (⟨6,2,0,[c,c]⟩,l):=by
 rcases h with rfl | rfl
 · have h1 : skipN false (60 :: 60 :: l) = 0:=by simp [skipN,white]
   unfold nextS nextT;rw [h1];simp [tokT]
 · have h1 : skipN false (62 :: 62 :: l) = 0:=by simp [skipN,white]
   unfold nextS nextT;rw [h1];simp [tokT]
theorem okO_kinds {d : Nat} {k n g : Int} {s : L} {ks : List L} {cs : List Ob} (h : okO (d + 1) (.mk k n g s ks cs)) :
   (k = 0 ∧ n = 0 ∧ g = 0 ∧ s = [] ∧ ks = [] ∧ cs = []) ∨ (k = 1 ∧ (n = 0 ∨ n = 1) ∧ g = 0 ∧ s = [] ∧ ks = [] ∧ cs = []) ∨ (k = 2 ∧ (-2147483647 ≤ n ∧ n ≤ 2147483647) ∧ g = 0 ∧ s = [] ∧ ks = [] ∧ cs = []) ∨
   (k = 3 ∧ (-1073741824 ≤ n ∧ n ≤ 1073741824) ∧ g = 0 ∧ s = [] ∧ ks = [] ∧ cs = []) ∨ (k = 4 ∧ n = 0 ∧ g = 0 ∧ s.length ≤ 32767 ∧ ks = [] ∧ cs = []) ∨
   (k = 5 ∧ n = 0 ∧ g = 0 ∧ nameB s = true ∧ ks = [] ∧ cs = []) ∨ (k = 8 ∧ (1 ≤ n ∧ n ≤ 8191 ∧ 0 ≤ g ∧ g ≤ 65535) ∧ s = [] ∧ ks = [] ∧ cs = []) ∨
   (k = 6 ∧ n = 0 ∧ g = 0 ∧ s = [] ∧ ks = []) ∨ (k = 7 ∧ n = 0 ∧ g = 0 ∧ s = [] ∧ keysB (.mk 7 n g s ks cs) = true):=by
 obtain ⟨h1,h2,h3,h4,h5,h6,h7⟩:=h
 unfold usesB zeroB at h1
 unfold fitsB at h3
 unfold longB at h4
 simp only [Ob.kind,Ob.n,Ob.g,Ob.s,Ob.keys,Ob.kids] at h1 h2 h3 h4 h5 h6 h7
 by_cases k0 : k = 0
 · subst k0;simp at h1;left;simp [h1]
 right
 by_cases k1 : k = 1
 · subst k1;simp at h1 h3;left;simp [h1,h3]
 right
 by_cases k2 : k = 2
 · subst k2;simp at h1 h3;left;simp [h1];exact ⟨of_decide_eq_true h3.1,of_decide_eq_true h3.2⟩
 right
 by_cases k3 : k = 3
 · subst k3;simp at h1 h3;left;simp [h1];exact ⟨of_decide_eq_true h3.1,of_decide_eq_true h3.2⟩
 right
 by_cases k4 : k = 4
 · subst k4;simp at h1 h4;left;simp [h1,h4]
 right
 by_cases k5 : k = 5
 · subst k5;simp at h1;left;unfold keysB at h6;simp [Ob.kind,Ob.s] at h6;simp [h1,h6]
 right
 by_cases k8 : k = 8
 · subst k8;simp at h1 h3;left;simp [h1];exact ⟨of_decide_eq_true h3.1.1.1,of_decide_eq_true h3.1.1.2,of_decide_eq_true h3.1.2,of_decide_eq_true h3.2⟩
 right
 by_cases k6 : k = 6
 · subst k6;simp at h1;left;simp [h1]
 right
 by_cases k7 : k = 7
 · subst k7;simp at h1;simp [h1,h6];simpa [h1] using h6
 simp [k0,k1,k2,k3,k4,k5,k6,k7,k8,h2] at h1
theorem sep32 : sep 32:=.inl rfl
theorem nameB_ne {s : L} (h : nameB s = true) : (∀ b ∈ s,b ≠ 0) ∧ s.length ≤ 127:=by
 unfold nameB at h
 simp only [Bool.and_eq_true,List.all_eq_true,decide_eq_true_eq] at h
 exact ⟨fun b hb => by simpa using h.1 b hb,h.2⟩
theorem keys_up {ks : List L} (h : ∀ i,i + 1 < ks.length → ks.getD i [] < ks.getD (i + 1) []) : ks.Pairwise (· < ·):=by
 rw [List.pairwise_iff_getElem]
 intro i j hi hj hij
 induction j with
 | zero => omega
 | succ j ih =>
   have h1:=h j hj
   rw [List.getD_eq_getElem?_getD,List.getD_eq_getElem?_getD,List.getElem?_eq_getElem (by omega),List.getElem?_eq_getElem hj] at h1
   simp only [Option.getD_some] at h1
   by_cases hj2 : i = j
   · subst hj2;exact h1
   · exact List.lt_trans (ih (by omega) (by omega)) h1
theorem look_zip : ∀ (ks : List L) (cs : List Ob),ks.length = cs.length → ks.Pairwise (· ≠ ·) → ks.map (fun k => (((ks.zip cs).find? fun p => p.1 == k).map (·.2)).getD .zero) = cs
 | [],[],_,_ => rfl
 | [],_ :: _,h,_ => by simp at h
 | _ :: _,[],h,_ => by simp at h
 | k :: ks,c :: cs,h,hp => by
   obtain ⟨h1,h2⟩:=List.pairwise_cons.1 hp
   have ih:=look_zip ks cs (by simpa using h) h2
   rw [List.map_cons,List.zip_cons_cons]
   congr 1
   · simp
   · refine Eq.trans (List.map_congr_left (fun x hx => ?_)) ih
     rw [List.find?_cons_of_neg (by simpa using h1 x hx)]
theorem dict_same {ks : List L} {cs : List Ob} (h : keysB (.mk 7 0 0 [] ks cs) = true) : ks.length = cs.length ∧ (∀ k ∈ ks,nameB k = true) ∧ ks.Pairwise (· < ·) ∧ mkDict (ks.zip cs) = .mk 7 0 0 [] ks cs:=by
 unfold keysB at h
 rw [if_neg (by simp [Ob.kind]),if_neg (by simp [Ob.kind])] at h
 replace h : (ks.length == cs.length && (List.range ks.length).all (keyAt (.mk 7 0 0 [] ks cs))) = true:=h
 simp only [Bool.and_eq_true,beq_iff_eq,List.all_eq_true,List.mem_range] at h
 obtain ⟨hl,ha⟩:=h
 have hat : ∀ i,i < ks.length → nameB (ks.getD i []) = true ∧ (i = 0 ∨ ks.getD (i - 1) [] < ks.getD i []) ∧ (cs.getD i .zero).kind ≠ 0:=by
   intro i hi
   have:=ha i hi
   unfold keyAt at this
   simp only [Ob.kind,Ob.keys,Ob.kids,Bool.and_eq_true,Bool.or_eq_true,beq_iff_eq,decide_eq_true_eq,bne_iff_ne,ne_eq] at this
   exact ⟨this.1.1.1,this.1.1.2.imp id of_decide_eq_true,this.2⟩
 have hpw : ks.Pairwise (· < ·):=keys_up (fun i hi => by
   have:=(hat (i + 1) hi).2.1
   rcases this with h | h
   · omega
   · simpa using h)
 have hne : ks.Pairwise (· ≠ ·):=hpw.imp (fun h he => by subst he;exact absurd h (List.lt_irrefl _))
 have hkind : ∀ p ∈ ks.zip cs,(p.2.kind != 0) = true:=by
   intro p hp
   obtain ⟨i,hi,rfl⟩:=List.mem_iff_getElem.1 hp
   have hi2 : i < ks.length:=by simp at hi;omega
   have:=(hat i hi2).2.2
   rw [List.getD_eq_getElem?_getD,List.getElem?_eq_getElem (by omega)] at this
   simpa using this
 refine ⟨hl,?_,hpw,?_⟩
 · intro k hk
   obtain ⟨i,hi,rfl⟩:=List.mem_iff_getElem.1 hk
   have:=(hat i hi).1
   rw [List.getD_eq_getElem?_getD,List.getElem?_eq_getElem hi] at this
   simpa using this
 · unfold mkDict
   have e1 : (ks.zip cs).filter (fun p => p.2.kind != 0) = ks.zip cs:=List.filter_eq_self.2 hkind
   have e2 : (ks.zip cs).map (·.1) = ks:=List.map_fst_zip (by omega)
   rw [e1,e2]
   have e3 : isort ks = ks:=(isort_of_perm (List.Perm.refl ks) (hpw.imp (fun h => List.le_of_lt h))).symm
   rw [e3]
   simp only
   rw [look_zip ks cs hl hne]
def bulkO : Nat → Ob → Nat
 | 0,_ => 0
 | d + 1,o => 1 + o.s.length + (o.keys.map (fun k => k.length + 1)).sum + (o.kids.map (bulkO d)).sum
theorem le_sum {l : List Nat} {x : Nat} (h : x ∈ l) : x ≤ l.sum:=by
 induction l with
 | nil => cases h
 | cons a l ih =>
   rw [List.sum_cons]
   rcases List.mem_cons.1 h with rfl | h
   · omega
   · have:=ih h;omega
theorem len_sum {α : Type} {l : List α} {f : α → Nat} (h : ∀ x ∈ l,1 ≤ f x) : l.length ≤ (l.map f).sum:=by
 induction l with
 | nil => simp
 | cons a l ih =>
   have h1:=h a (by simp)
   have:=ih (fun x hx => h x (by simp [hx]))
   simp only [List.length_cons,List.map_cons,List.sum_cons]
   omega
theorem bulk_pos (d : Nat) (o : Ob) : 1 ≤ bulkO (d + 1) o:=by unfold bulkO;omega
theorem bulk_s (d : Nat) (o : Ob) : o.s.length ≤ bulkO (d + 1) o:=by unfold bulkO;omega
theorem bulk_kid {d : Nat} {o k : Ob} (h : k ∈ o.kids) : bulkO d k ≤ bulkO (d + 1) o:=by
 have:=le_sum (List.mem_map.2 ⟨k,h,rfl⟩ : bulkO d k ∈ o.kids.map (bulkO d))
 show _ ≤ 1 + o.s.length + (o.keys.map (fun k => k.length + 1)).sum + (o.kids.map (bulkO d)).sum
 omega
theorem bulk_key {d : Nat} {o : Ob} {k : L} (h : k ∈ o.keys) : k.length ≤ bulkO (d + 1) o:=by
 have:=le_sum (List.mem_map.2 ⟨k,h,rfl⟩ : k.length + 1 ∈ o.keys.map (fun k => k.length + 1))
 unfold bulkO;omega
theorem bulk_keys (d : Nat) (o : Ob) : o.keys.length ≤ bulkO (d + 1) o:=by
 have:=len_sum (l:=o.keys) (f:=fun k => k.length + 1) (fun x _ => by omega)
 unfold bulkO;omega
theorem bulk_kids (d : Nat) (o : Ob) : o.kids.length ≤ bulkO (d + 2) o:=by
 have:=len_sum (l:=o.kids) (f:=bulkO (d + 1)) (fun x _ => bulk_pos d x)
 show _ ≤ 1 + o.s.length + (o.keys.map (fun k => k.length + 1)).sum + (o.kids.map (bulkO (d + 1))).sum
 omega
theorem digI_le (n : Int) (h1 : -2147483647 ≤ n) (h2 : n ≤ 2147483647) : (digI n).length ≤ 11:=by
 have:=digU_len n.natAbs 9 (by omega)
 unfold digI
 split <;> simp <;> omega
theorem realT_le (n : Int) (h1 : -1073741824 ≤ n) (h2 : n ≤ 1073741824) : (realT n).length ≤ 16:=by
 have h3:=digU_len (n.natAbs / 10000) 9 (by omega)
 have h4:=(fracT_ok n.natAbs).2.2.1
 unfold realT realU
 split <;> simp <;> omega
end Fo
namespace Go.Proofs
open Go.Shelf
def Tryz.lays169_ren : Go.Shelf.Ren:=⟨fun | 169 => 54 | n => n,fun | 70 => 97 | 9 => 9 | 0 => 0 | 72 => 100 | 37 => 98 | 127 => 134 | 3 => 3 | 5 => 5 | n => n,fun | n => n⟩
theorem Tryz.lays169 : Go.Proofs.Lays.n169 Tryz.prog Tryz.lays169_ren:={
 mixed:=by kernel_rfl
 f169:=Tryz.func54.trans (congrArg some (by kernel_rfl))
 t0:=Tryz.underlying0
 a0:=Tryz.isAgg0
 z0:=Tryz.sizeOf0
 v0:=Tryz.zeroValue0
 t3:=Tryz.underlying3
 a3:=Tryz.isAgg3
 z3:=Tryz.sizeOf3
 v3:=Tryz.zeroValue3
 t9:=Tryz.underlying9
 a9:=Tryz.isAgg9
 z9:=Tryz.sizeOf9
 v9:=Tryz.zeroValue9
 t37:=Tryz.underlying98
 a37:=Tryz.isAgg98
 z37:=Tryz.sizeOf98
 v37:=Tryz.zeroValue98
 t70:=Tryz.underlying97
 a70:=Tryz.isAgg97
 z70:=Tryz.sizeOf97
 v70:=Tryz.zeroValue97
 t72:=Tryz.underlying100
 a72:=Tryz.isAgg100
 z72:=Tryz.sizeOf100
 v72:=Tryz.zeroValue100
 t127:=Tryz.underlying134
 a127:=Tryz.isAgg134
 z127:=Tryz.sizeOf134
 v127:=Tryz.zeroValue134 }
theorem Tryz.Builder_Extra_169 : Builder.Extra Tryz.prog Tryz.lays169_ren:={
 sizeBuilder:=by kernel_rfl
 liesBuilder:=by kernel_rfl
 t5:=Tryz.underlying5
 a5:=Tryz.isAgg5
 z5:=Tryz.sizeOf5
 v5:=Tryz.zeroValue5
 infoByte:=by kernel_rfl
 cellsByte:=by kernel_rfl
 sizeByte:=by kernel_rfl
 neB5:=by decide }
open Go.RowKit in
theorem Tryz.Builder_String_any (B b : Nat) (l : List UInt8) (w : World) (h : Lib.IsBuilder 100 5 B b (Lib.byteCells l) w) (hBw : B ≤ w.heap.size) :
   Calls Tryz.prog 54 #[.pointer (some ⟨b,0,none⟩)] w fun e w' => e = .returned (.string ⟨l.toArray⟩) ∧ Below B w w':=Any.Builder_String_any Tryz.lays169 Tryz.Builder_Extra_169 B b l w h hBw
def Tryz.lays165_ren : Go.Shelf.Ren:=⟨fun | 165 => 199 | 240 => 93 | 241 => 227 | 276 => 150 | 277 => 239 | n => n,fun | 70 => 97 | 3 => 3 | 0 => 0 | 4 => 4 | 9 => 9 | 20 => 20 | 72 => 100 | 37 => 98 | 164 => 173 | 5 => 5 | n => n,fun | n => n⟩
theorem Tryz.lays165 : Go.Proofs.Lays.n165 Tryz.prog Tryz.lays165_ren:={
 mixed:=by kernel_rfl
 f165:=Tryz.func199.trans (congrArg some (by kernel_rfl))
 f240:=Tryz.func93.trans (congrArg some (by kernel_rfl))
 f241:=Tryz.func227.trans (congrArg some (by kernel_rfl))
 f276:=Tryz.func150.trans (congrArg some (by kernel_rfl))
 f277:=Tryz.func239.trans (congrArg some (by kernel_rfl))
 t0:=Tryz.underlying0
 a0:=Tryz.isAgg0
 z0:=Tryz.sizeOf0
 v0:=Tryz.zeroValue0
 t3:=Tryz.underlying3
 a3:=Tryz.isAgg3
 z3:=Tryz.sizeOf3
 v3:=Tryz.zeroValue3
 t4:=Tryz.underlying4
 a4:=Tryz.isAgg4
 z4:=Tryz.sizeOf4
 v4:=Tryz.zeroValue4
 t9:=Tryz.underlying9
 a9:=Tryz.isAgg9
 z9:=Tryz.sizeOf9
 v9:=Tryz.zeroValue9
 t20:=Tryz.underlying20
 a20:=Tryz.isAgg20
 z20:=Tryz.sizeOf20
 v20:=Tryz.zeroValue20
 t37:=Tryz.underlying98
 a37:=Tryz.isAgg98
 z37:=Tryz.sizeOf98
 v37:=Tryz.zeroValue98
 t70:=Tryz.underlying97
 a70:=Tryz.isAgg97
 z70:=Tryz.sizeOf97
 v70:=Tryz.zeroValue97
 t72:=Tryz.underlying100
 a72:=Tryz.isAgg100
 z72:=Tryz.sizeOf100
 v72:=Tryz.zeroValue100
 t164:=Tryz.underlying173
 a164:=Tryz.isAgg173
 z164:=Tryz.sizeOf173
 v164:=Tryz.zeroValue173 }
theorem Tryz.Builder_Extra_165 : Builder.Extra Tryz.prog Tryz.lays165_ren:={
 sizeBuilder:=by kernel_rfl
 liesBuilder:=by kernel_rfl
 t5:=Tryz.underlying5
 a5:=Tryz.isAgg5
 z5:=Tryz.sizeOf5
 v5:=Tryz.zeroValue5
 infoByte:=by kernel_rfl
 cellsByte:=by kernel_rfl
 sizeByte:=by kernel_rfl
 neB5:=by decide }
open Go.RowKit in
theorem Tryz.Builder_Grow_fresh (B b n : Nat) (w : World) (hB : B ≤ b) (hbk : w.heap[b]? = some (.cells #[.pointer none, .slice none 0 0] 100 (0, 0))) (hBw : B ≤ w.heap.size) (hn : n ≤ 281474976710656) :
   Calls Tryz.prog 199 #[.pointer (some ⟨b,0,none⟩),.int .i64 n] w fun e w' => e = .returned (.tuple #[]) ∧ (Lib.BuilderAt 100 5 B b (.pointer (some ⟨b,0,none⟩)) [] w' ∧ Below B w w'):=Any.Builder_Grow_fresh Tryz.lays165 Tryz.Builder_Extra_165 B b n w hB hbk hBw hn
def Tryz.lays162_ren : Go.Shelf.Ren:=⟨fun | 162 => 244 | 232 => 247 | 227 => 248 | 234 => 249 | 236 => 250 | 228 => 251 | 271 => 252 | 151 => 253 | 120 => 254 | 197 => 255 | 152 => 256 | 260 => 257 | 137 => 211 | 119 => 258 | 224 => 259 | 225 => 260 | 217 => 229 | 266 => 241 | n => n,fun | 9 => 9 | 4 => 4 | 3 => 3 | 5 => 5 | 117 => 241 | 116 => 240 | 0 => 0 | 124 => 244 | 21 => 21 | 105 => 247 | 46 => 195 | 119 => 252 | 139 => 255 | 138 => 254 | n => n,fun | 3 => 4 | 4 => 5 | n => n⟩
theorem Tryz.lays162 : Go.Proofs.Lays.n162 Tryz.prog Tryz.lays162_ren:={
 mixed:=by kernel_rfl
 f119:=Tryz.func258.trans (congrArg some (by kernel_rfl))
 f120:=Tryz.func254.trans (congrArg some (by kernel_rfl))
 f137:=Tryz.func211.trans (congrArg some (by kernel_rfl))
 f151:=Tryz.func253.trans (congrArg some (by kernel_rfl))
 f152:=Tryz.func256.trans (congrArg some (by kernel_rfl))
 f162:=Tryz.func244.trans (congrArg some (by kernel_rfl))
 f197:=Tryz.func255.trans (congrArg some (by kernel_rfl))
 f217:=Tryz.func229.trans (congrArg some (by kernel_rfl))
 f224:=Tryz.func259.trans (congrArg some (by kernel_rfl))
 f225:=Tryz.func260.trans (congrArg some (by kernel_rfl))
 f227:=Tryz.func248.trans (congrArg some (by kernel_rfl))
 f228:=Tryz.func251.trans (congrArg some (by kernel_rfl))
 f232:=Tryz.func247.trans (congrArg some (by kernel_rfl))
 f234:=Tryz.func249.trans (congrArg some (by kernel_rfl))
 f236:=Tryz.func250.trans (congrArg some (by kernel_rfl))
 f260:=Tryz.func257.trans (congrArg some (by kernel_rfl))
 f266:=Tryz.func241.trans (congrArg some (by kernel_rfl))
 f271:=Tryz.func252.trans (congrArg some (by kernel_rfl))
 t0:=Tryz.underlying0
 a0:=Tryz.isAgg0
 z0:=Tryz.sizeOf0
 v0:=Tryz.zeroValue0
 t3:=Tryz.underlying3
 a3:=Tryz.isAgg3
 z3:=Tryz.sizeOf3
 v3:=Tryz.zeroValue3
 t4:=Tryz.underlying4
 a4:=Tryz.isAgg4
 z4:=Tryz.sizeOf4
 v4:=Tryz.zeroValue4
 t5:=Tryz.underlying5
 a5:=Tryz.isAgg5
 z5:=Tryz.sizeOf5
 v5:=Tryz.zeroValue5
 t9:=Tryz.underlying9
 a9:=Tryz.isAgg9
 z9:=Tryz.sizeOf9
 v9:=Tryz.zeroValue9
 t21:=Tryz.underlying21
 a21:=Tryz.isAgg21
 z21:=Tryz.sizeOf21
 v21:=Tryz.zeroValue21
 t46:=Tryz.underlying195
 a46:=Tryz.isAgg195
 z46:=Tryz.sizeOf195
 v46:=Tryz.zeroValue195
 t105:=Tryz.underlying247
 a105:=Tryz.isAgg247
 z105:=Tryz.sizeOf247
 v105:=Tryz.zeroValue247
 t116:=Tryz.underlying240
 a116:=Tryz.isAgg240
 z116:=Tryz.sizeOf240
 t117:=Tryz.underlying241
 a117:=Tryz.isAgg241
 z117:=Tryz.sizeOf241
 v117:=Tryz.zeroValue241
 t119:=Tryz.underlying252
 a119:=Tryz.isAgg252
 z119:=Tryz.sizeOf252
 t124:=Tryz.underlying244
 a124:=Tryz.isAgg244
 z124:=Tryz.sizeOf244
 v124:=Tryz.zeroValue244
 t138:=Tryz.underlying254
 a138:=Tryz.isAgg254
 z138:=Tryz.sizeOf254
 v138:=Tryz.zeroValue254
 t139:=Tryz.underlying255
 a139:=Tryz.isAgg255
 z139:=Tryz.sizeOf255
 v139:=Tryz.zeroValue255
 g3:=by kernel_rfl
 g4:=by kernel_rfl }
open Go.RowKit in
theorem Tryz.strings_TrimRight_one (s : ByteArray) (c : UInt8) (hc : c.toNat < 128) (w : World) (hs : s.size ≤ 9223372036854775807) :
   Calls Tryz.prog 244 #[.string s,.string ⟨#[c]⟩] w fun e w' => e = .returned (.string ⟨(Lib.trimRightB s.data.toList c).toArray⟩) ∧ w' = w:=Any.strings_TrimRight_one Tryz.lays162 s c hc w hs
def Tryz.lays137_ren : Go.Shelf.Ren:=⟨fun | 137 => 211 | 217 => 229 | 266 => 241 | n => n,fun | 9 => 9 | 5 => 5 | 3 => 3 | n => n,fun | n => n⟩
theorem Tryz.lays137 : Go.Proofs.Lays.n137 Tryz.prog Tryz.lays137_ren:={
 mixed:=by kernel_rfl
 f137:=Tryz.func211.trans (congrArg some (by kernel_rfl))
 f217:=Tryz.func229.trans (congrArg some (by kernel_rfl))
 f266:=Tryz.func241.trans (congrArg some (by kernel_rfl))
 t3:=Tryz.underlying3
 a3:=Tryz.isAgg3
 z3:=Tryz.sizeOf3
 v3:=Tryz.zeroValue3
 t5:=Tryz.underlying5
 a5:=Tryz.isAgg5
 z5:=Tryz.sizeOf5
 v5:=Tryz.zeroValue5
 t9:=Tryz.underlying9
 a9:=Tryz.isAgg9
 z9:=Tryz.sizeOf9
 v9:=Tryz.zeroValue9 }
open Go.RowKit in
theorem Tryz.strings_IndexByte (s : ByteArray) (c : Int) (w : World) :
   Calls Tryz.prog 211 #[.string s,.int .u8 c] w fun e w' => e = .returned (.int .i64 (Lib.indexByte s.data.toList c.toNat.toUInt8)) ∧ w' = w:=Any.strings_IndexByte Tryz.lays137 s c w
open Go.RowKit in
theorem Tryz.Builder_String_any_k (B b : Nat) (l : List UInt8) (w : World) (h : Lib.IsBuilderF 100 5 B b (Lib.byteCells l) w) (hBw : B ≤ w.heap.size) :
   Calls Tryz.prog 54 #[.pointer (some ⟨b,0,none⟩)] w fun e w' => e = .returned (.string ⟨l.toArray⟩) ∧ (Lib.IsBuilderF 100 5 B b (Lib.byteCells l) w' ∧ Below B w w' ∧ Lib.OthersKept 5 (some b) w w'):=Any.Builder_String_any_k Tryz.lays169 Tryz.Builder_Extra_169 B b l w h hBw
def Tryz.laysM246_ren : Go.Shelf.Ren:=⟨fun | 246 => 195 | 283 => 220 | 284 => 221 | 285 => 222 | 286 => 223 | 129 => 235 | 317 => 234 | 318 => 236 | 319 => 237 | 320 => 238 | 337 => 245 | 338 => 246 | n => n,fun | 2 => 2 | 3 => 3 | 9 => 9 | 4 => 4 | 171 => 216 | 0 => 0 | 53 => 217 | 37 => 98 | 5 => 5 | 173 => 220 | 212 => 231 | 51 => 222 | 20 => 20 | 213 => 232 | 46 => 195 | 232 => 245 | 233 => 246 | n => n,fun | 17 => 0 | 18 => 2 | 19 => 3 | n => n⟩
def Tryz.laysM243_ren : Go.Shelf.Ren:=⟨fun | 243 => 196 | 246 => 195 | 283 => 220 | 284 => 221 | 285 => 222 | 286 => 223 | 129 => 235 | 317 => 234 | 318 => 236 | 319 => 237 | 320 => 238 | 337 => 245 | 338 => 246 | n => n,fun | 3 => 3 | 9 => 9 | 2 => 2 | 4 => 4 | 171 => 216 | 0 => 0 | 53 => 217 | 37 => 98 | 5 => 5 | 173 => 220 | 212 => 231 | 51 => 222 | 20 => 20 | 213 => 232 | 46 => 195 | 232 => 245 | 233 => 246 | n => n,fun | 17 => 0 | 18 => 2 | 19 => 3 | n => n⟩
def Tryz.laysM171_ren : Go.Shelf.Ren:=⟨fun | 171 => 148 | 243 => 196 | 246 => 195 | 283 => 220 | 284 => 221 | 285 => 222 | 286 => 223 | 129 => 235 | 317 => 234 | 318 => 236 | 319 => 237 | 320 => 238 | 337 => 245 | 338 => 246 | n => n,fun | 3 => 3 | 9 => 9 | 2 => 2 | 4 => 4 | 171 => 216 | 0 => 0 | 53 => 217 | 37 => 98 | 5 => 5 | 173 => 220 | 212 => 231 | 51 => 222 | 20 => 20 | 213 => 232 | 46 => 195 | 232 => 245 | 233 => 246 | n => n,fun | 17 => 0 | 18 => 2 | 19 => 3 | n => n⟩
theorem Tryz.laysM171 : Go.Proofs.LaysM.n171 Tryz.prog Tryz.laysM171_ren:={
 mixed:=by kernel_rfl
 f129:=Tryz.func235.trans (congrArg some (by kernel_rfl))
 f171:=Tryz.func148.trans (congrArg some (by kernel_rfl))
 f243:=Tryz.func196.trans (congrArg some (by kernel_rfl))
 f246:=Tryz.func195.trans (congrArg some (by kernel_rfl))
 f283:=Tryz.func220.trans (congrArg some (by kernel_rfl))
 f284:=Tryz.func221.trans (congrArg some (by kernel_rfl))
 f285:=Tryz.func222.trans (congrArg some (by kernel_rfl))
 f286:=Tryz.func223.trans (congrArg some (by kernel_rfl))
 f317:=Tryz.func234.trans (congrArg some (by kernel_rfl))
 f318:=Tryz.func236.trans (congrArg some (by kernel_rfl))
 f319:=Tryz.func237.trans (congrArg some (by kernel_rfl))
 f320:=Tryz.func238.trans (congrArg some (by kernel_rfl))
 f337:=Tryz.func245.trans (congrArg some (by kernel_rfl))
 f338:=Tryz.func246.trans (congrArg some (by kernel_rfl))
 t0:=Tryz.underlying0
 a0:=Tryz.isAgg0
 z0:=Tryz.sizeOf0
 v0:=Tryz.zeroValue0
 t2:=Tryz.underlying2
 a2:=Tryz.isAgg2
 z2:=Tryz.sizeOf2
 v2:=Tryz.zeroValue2
 t3:=Tryz.underlying3
 a3:=Tryz.isAgg3
 z3:=Tryz.sizeOf3
 v3:=Tryz.zeroValue3
 t4:=Tryz.underlying4
 a4:=Tryz.isAgg4
 z4:=Tryz.sizeOf4
 v4:=Tryz.zeroValue4
 t5:=Tryz.underlying5
 a5:=Tryz.isAgg5
 z5:=Tryz.sizeOf5
 v5:=Tryz.zeroValue5
 t9:=Tryz.underlying9
 a9:=Tryz.isAgg9
 z9:=Tryz.sizeOf9
 v9:=Tryz.zeroValue9
 t20:=Tryz.underlying20
 a20:=Tryz.isAgg20
 z20:=Tryz.sizeOf20
 v20:=Tryz.zeroValue20
 t37:=Tryz.underlying98
 a37:=Tryz.isAgg98
 z37:=Tryz.sizeOf98
 v37:=Tryz.zeroValue98
 t46:=Tryz.underlying195
 a46:=Tryz.isAgg195
 z46:=Tryz.sizeOf195
 v46:=Tryz.zeroValue195
 t51:=Tryz.underlying222
 a51:=Tryz.isAgg222
 z51:=Tryz.sizeOf222
 v51:=Tryz.zeroValue222
 t53:=Tryz.underlying217
 a53:=Tryz.isAgg217
 z53:=Tryz.sizeOf217
 v53:=Tryz.zeroValue217
 t171:=Tryz.underlying216
 a171:=Tryz.isAgg216
 z171:=Tryz.sizeOf216
 v171:=Tryz.zeroValue216
 t173:=Tryz.underlying220
 a173:=Tryz.isAgg220
 z173:=Tryz.sizeOf220
 v173:=Tryz.zeroValue220
 t212:=Tryz.underlying231
 a212:=Tryz.isAgg231
 z212:=Tryz.sizeOf231
 v212:=Tryz.zeroValue231
 t213:=Tryz.underlying232
 a213:=Tryz.isAgg232
 z213:=Tryz.sizeOf232
 t232:=Tryz.underlying245
 a232:=Tryz.isAgg245
 z232:=Tryz.sizeOf245
 v232:=Tryz.zeroValue245
 t233:=Tryz.underlying246
 a233:=Tryz.isAgg246
 z233:=Tryz.sizeOf246
 v233:=Tryz.zeroValue246
 g17:=by kernel_rfl
 g18:=by kernel_rfl
 g19:=by kernel_rfl
 i0:=by kernel_rfl
 i2:=by kernel_rfl
 i3:=by kernel_rfl
 i4:=by kernel_rfl
 i5:=by kernel_rfl
 i9:=by kernel_rfl
 i20:=by kernel_rfl
 i37:=by kernel_rfl
 i46:=by kernel_rfl
 i51:=by kernel_rfl
 i53:=by kernel_rfl
 i171:=by kernel_rfl
 i173:=by kernel_rfl
 i212:=by kernel_rfl
 i232:=by kernel_rfl
 i233:=by kernel_rfl
 m17:=by kernel_rfl
 m18:=by kernel_rfl
 m19:=by kernel_rfl }
open Go.RowKit Go.Sort Go.Lib in
theorem Tryz.strconv_Itoa (n : Int) (h0 : -9223372036854775808 ≤ n) (h1 : n ≤ 9223372036854775807) (w : World) (htab : Lib.TabIs Tryz.prog w "internal/strconv.uint64pow10" .u64 Lib.pow10Tab) :
   Calls Tryz.prog 148 #[.int .i64 n] w fun e w' => e = .returned (.string ⟨(Lib.itoa n).toArray⟩) ∧ ∃ k os,w' = grow (w.drewN k) os:=Any.strconv_Itoa Tryz.laysM171 n h0 h1 w htab
def Tryz.laysM173_ren : Go.Shelf.Ren:=⟨fun | 173 => 147 | 246 => 195 | 283 => 220 | 284 => 221 | 285 => 222 | 286 => 223 | 129 => 235 | 317 => 234 | 318 => 236 | 319 => 237 | 320 => 238 | 337 => 245 | 338 => 246 | n => n,fun | 2 => 2 | 3 => 3 | 9 => 9 | 4 => 4 | 171 => 216 | 0 => 0 | 53 => 217 | 37 => 98 | 5 => 5 | 173 => 220 | 212 => 231 | 51 => 222 | 20 => 20 | 213 => 232 | 46 => 195 | 232 => 245 | 233 => 246 | n => n,fun | 17 => 0 | 18 => 2 | 19 => 3 | n => n⟩
theorem Tryz.laysM173 : Go.Proofs.LaysM.n173 Tryz.prog Tryz.laysM173_ren:={
 mixed:=by kernel_rfl
 f129:=Tryz.func235.trans (congrArg some (by kernel_rfl))
 f173:=Tryz.func147.trans (congrArg some (by kernel_rfl))
 f246:=Tryz.func195.trans (congrArg some (by kernel_rfl))
 f283:=Tryz.func220.trans (congrArg some (by kernel_rfl))
 f284:=Tryz.func221.trans (congrArg some (by kernel_rfl))
 f285:=Tryz.func222.trans (congrArg some (by kernel_rfl))
 f286:=Tryz.func223.trans (congrArg some (by kernel_rfl))
 f317:=Tryz.func234.trans (congrArg some (by kernel_rfl))
 f318:=Tryz.func236.trans (congrArg some (by kernel_rfl))
 f319:=Tryz.func237.trans (congrArg some (by kernel_rfl))
 f320:=Tryz.func238.trans (congrArg some (by kernel_rfl))
 f337:=Tryz.func245.trans (congrArg some (by kernel_rfl))
 f338:=Tryz.func246.trans (congrArg some (by kernel_rfl))
 t0:=Tryz.underlying0
 a0:=Tryz.isAgg0
 z0:=Tryz.sizeOf0
 v0:=Tryz.zeroValue0
 t2:=Tryz.underlying2
 a2:=Tryz.isAgg2
 z2:=Tryz.sizeOf2
 v2:=Tryz.zeroValue2
 t3:=Tryz.underlying3
 a3:=Tryz.isAgg3
 z3:=Tryz.sizeOf3
 v3:=Tryz.zeroValue3
 t4:=Tryz.underlying4
 a4:=Tryz.isAgg4
 z4:=Tryz.sizeOf4
 v4:=Tryz.zeroValue4
 t5:=Tryz.underlying5
 a5:=Tryz.isAgg5
 z5:=Tryz.sizeOf5
 v5:=Tryz.zeroValue5
 t9:=Tryz.underlying9
 a9:=Tryz.isAgg9
 z9:=Tryz.sizeOf9
 v9:=Tryz.zeroValue9
 t20:=Tryz.underlying20
 a20:=Tryz.isAgg20
 z20:=Tryz.sizeOf20
 v20:=Tryz.zeroValue20
 t37:=Tryz.underlying98
 a37:=Tryz.isAgg98
 z37:=Tryz.sizeOf98
 v37:=Tryz.zeroValue98
 t46:=Tryz.underlying195
 a46:=Tryz.isAgg195
 z46:=Tryz.sizeOf195
 v46:=Tryz.zeroValue195
 t51:=Tryz.underlying222
 a51:=Tryz.isAgg222
 z51:=Tryz.sizeOf222
 v51:=Tryz.zeroValue222
 t53:=Tryz.underlying217
 a53:=Tryz.isAgg217
 z53:=Tryz.sizeOf217
 v53:=Tryz.zeroValue217
 t171:=Tryz.underlying216
 a171:=Tryz.isAgg216
 z171:=Tryz.sizeOf216
 v171:=Tryz.zeroValue216
 t173:=Tryz.underlying220
 a173:=Tryz.isAgg220
 z173:=Tryz.sizeOf220
 v173:=Tryz.zeroValue220
 t212:=Tryz.underlying231
 a212:=Tryz.isAgg231
 z212:=Tryz.sizeOf231
 v212:=Tryz.zeroValue231
 t213:=Tryz.underlying232
 a213:=Tryz.isAgg232
 z213:=Tryz.sizeOf232
 t232:=Tryz.underlying245
 a232:=Tryz.isAgg245
 z232:=Tryz.sizeOf245
 v232:=Tryz.zeroValue245
 t233:=Tryz.underlying246
 a233:=Tryz.isAgg246
 z233:=Tryz.sizeOf246
 v233:=Tryz.zeroValue246
 g17:=by kernel_rfl
 g18:=by kernel_rfl
 g19:=by kernel_rfl
 i0:=by kernel_rfl
 i2:=by kernel_rfl
 i3:=by kernel_rfl
 i4:=by kernel_rfl
 i5:=by kernel_rfl
 i9:=by kernel_rfl
 i20:=by kernel_rfl
 i37:=by kernel_rfl
 i46:=by kernel_rfl
 i51:=by kernel_rfl
 i53:=by kernel_rfl
 i171:=by kernel_rfl
 i173:=by kernel_rfl
 i212:=by kernel_rfl
 i232:=by kernel_rfl
 i233:=by kernel_rfl
 m17:=by kernel_rfl
 m18:=by kernel_rfl
 m19:=by kernel_rfl }
open Go.RowKit Go.Sort Go.Lib in
theorem Tryz.strconv_FormatInt_10 (n : Int) (h0 : -9223372036854775808 ≤ n) (h1 : n ≤ 9223372036854775807) (w : World) (htab : Lib.TabIs Tryz.prog w "internal/strconv.uint64pow10" .u64 Lib.pow10Tab) :
   Calls Tryz.prog 147 #[.int .i64 n,.int .i64 10] w fun e w' => e = .returned (.string ⟨(Lib.itoa n).toArray⟩) ∧ ∃ k os,w' = grow (w.drewN k) os:=Any.strconv_FormatInt_10 Tryz.laysM173 n h0 h1 w htab
def Tryz.lays105_ren : Go.Shelf.Ren:=⟨fun | 105 => 149 | 212 => 197 | 99 => 198 | 165 => 199 | 166 => 52 | 170 => 50 | 169 => 54 | 263 => 224 | 264 => 225 | 206 => 226 | 240 => 93 | 241 => 227 | 276 => 150 | 277 => 239 | n => n,fun | 9 => 9 | 3 => 3 | 4 => 4 | 20 => 20 | 0 => 0 | 46 => 195 | 109 => 204 | 5 => 5 | 72 => 100 | 76 => 106 | 51 => 222 | 146 => 223 | 53 => 217 | 148 => 225 | 70 => 97 | 37 => 98 | 75 => 105 | 127 => 134 | 164 => 173 | 80 => 108 | n => n,fun | n => n⟩
theorem Tryz.lays105 : Go.Proofs.Lays.n105 Tryz.prog Tryz.lays105_ren:={
 mixed:=by kernel_rfl
 f99:=Tryz.func198.trans (congrArg some (by kernel_rfl))
 f105:=Tryz.func149.trans (congrArg some (by kernel_rfl))
 f165:=Tryz.func199.trans (congrArg some (by kernel_rfl))
 f166:=Tryz.func52.trans (congrArg some (by kernel_rfl))
 f169:=Tryz.func54.trans (congrArg some (by kernel_rfl))
 f170:=Tryz.func50.trans (congrArg some (by kernel_rfl))
 f206:=Tryz.func226.trans (congrArg some (by kernel_rfl))
 f212:=Tryz.func197.trans (congrArg some (by kernel_rfl))
 f240:=Tryz.func93.trans (congrArg some (by kernel_rfl))
 f241:=Tryz.func227.trans (congrArg some (by kernel_rfl))
 f263:=Tryz.func224.trans (congrArg some (by kernel_rfl))
 f264:=Tryz.func225.trans (congrArg some (by kernel_rfl))
 f276:=Tryz.func150.trans (congrArg some (by kernel_rfl))
 f277:=Tryz.func239.trans (congrArg some (by kernel_rfl))
 t0:=Tryz.underlying0
 a0:=Tryz.isAgg0
 z0:=Tryz.sizeOf0
 v0:=Tryz.zeroValue0
 t3:=Tryz.underlying3
 a3:=Tryz.isAgg3
 z3:=Tryz.sizeOf3
 v3:=Tryz.zeroValue3
 t4:=Tryz.underlying4
 a4:=Tryz.isAgg4
 z4:=Tryz.sizeOf4
 v4:=Tryz.zeroValue4
 t5:=Tryz.underlying5
 a5:=Tryz.isAgg5
 z5:=Tryz.sizeOf5
 v5:=Tryz.zeroValue5
 t9:=Tryz.underlying9
 a9:=Tryz.isAgg9
 z9:=Tryz.sizeOf9
 v9:=Tryz.zeroValue9
 t20:=Tryz.underlying20
 a20:=Tryz.isAgg20
 z20:=Tryz.sizeOf20
 v20:=Tryz.zeroValue20
 t37:=Tryz.underlying98
 a37:=Tryz.isAgg98
 z37:=Tryz.sizeOf98
 v37:=Tryz.zeroValue98
 t46:=Tryz.underlying195
 a46:=Tryz.isAgg195
 z46:=Tryz.sizeOf195
 v46:=Tryz.zeroValue195
 t51:=Tryz.underlying222
 a51:=Tryz.isAgg222
 z51:=Tryz.sizeOf222
 v51:=Tryz.zeroValue222
 t53:=Tryz.underlying217
 a53:=Tryz.isAgg217
 z53:=Tryz.sizeOf217
 v53:=Tryz.zeroValue217
 t70:=Tryz.underlying97
 a70:=Tryz.isAgg97
 z70:=Tryz.sizeOf97
 v70:=Tryz.zeroValue97
 t72:=Tryz.underlying100
 a72:=Tryz.isAgg100
 z72:=Tryz.sizeOf100
 v72:=Tryz.zeroValue100
 t75:=Tryz.underlying105
 a75:=Tryz.isAgg105
 z75:=Tryz.sizeOf105
 v75:=Tryz.zeroValue105
 t76:=Tryz.underlying106
 a76:=Tryz.isAgg106
 z76:=Tryz.sizeOf106
 v76:=Tryz.zeroValue106
 t109:=Tryz.underlying204
 a109:=Tryz.isAgg204
 z109:=Tryz.sizeOf204
 v109:=Tryz.zeroValue204
 t127:=Tryz.underlying134
 a127:=Tryz.isAgg134
 z127:=Tryz.sizeOf134
 v127:=Tryz.zeroValue134
 t146:=Tryz.underlying223
 a146:=Tryz.isAgg223
 z146:=Tryz.sizeOf223
 v146:=Tryz.zeroValue223
 t148:=Tryz.underlying225
 a148:=Tryz.isAgg225
 z148:=Tryz.sizeOf225
 v148:=Tryz.zeroValue225
 t164:=Tryz.underlying173
 a164:=Tryz.isAgg173
 z164:=Tryz.sizeOf173
 v164:=Tryz.zeroValue173 }
theorem Tryz.Builder_Extra_105 : Builder.Extra Tryz.prog Tryz.lays105_ren:={
 sizeBuilder:=by kernel_rfl
 liesBuilder:=by kernel_rfl
 t5:=Tryz.underlying5
 a5:=Tryz.isAgg5
 z5:=Tryz.sizeOf5
 v5:=Tryz.zeroValue5
 infoByte:=by kernel_rfl
 cellsByte:=by kernel_rfl
 sizeByte:=by kernel_rfl
 neB5:=by decide }
open Go.RowKit Go.Lib in
theorem Tryz.strings_Repeat (s : ByteArray) (c : Nat) (w : World) (hc : c ≤ 9223372036854775807) (hlen : s.size * c ≤ 140737488355328) :
   Calls Tryz.prog 149 #[.string s,.int .i64 c] w fun e w' => e = .returned (.string ⟨(Lib.repeatL s.data.toList c).toArray⟩) ∧ Below w.heap.size w w':=Any.strings_Repeat Tryz.lays105 Tryz.Builder_Extra_105 s c w hc hlen
def Tryz.lays109_ren : Go.Shelf.Ren:=⟨fun | 109 => 168 | n => n,fun | 31 => 23 | 9 => 9 | 3 => 3 | 0 => 0 | 4 => 4 | n => n,fun | n => n⟩
theorem Tryz.lays109 : Go.Proofs.Lays.n109 Tryz.prog Tryz.lays109_ren:={
 mixed:=by kernel_rfl
 f109:=Tryz.func168.trans (congrArg some (by kernel_rfl))
 t0:=Tryz.underlying0
 a0:=Tryz.isAgg0
 z0:=Tryz.sizeOf0
 v0:=Tryz.zeroValue0
 t3:=Tryz.underlying3
 a3:=Tryz.isAgg3
 z3:=Tryz.sizeOf3
 v3:=Tryz.zeroValue3
 t4:=Tryz.underlying4
 a4:=Tryz.isAgg4
 z4:=Tryz.sizeOf4
 v4:=Tryz.zeroValue4
 t9:=Tryz.underlying9
 a9:=Tryz.isAgg9
 z9:=Tryz.sizeOf9
 v9:=Tryz.zeroValue9
 t31:=Tryz.underlying23
 a31:=Tryz.isAgg23
 z31:=Tryz.sizeOf23
 v31:=Tryz.zeroValue23 }
open Go.Lib in
theorem Tryz.slices_Index_string (b off n c : Nat) (zs : List ByteArray) (x : ByteArray) (w : World) (hz : n ≤ zs.length) (hbig : n ≤ 9223372036854775807) (hc : ∀ j, j < zs.length → w.cell? ⟨b, off + j, none⟩ = some (.string (zs.getD j ByteArray.empty))) :
   Calls Tryz.prog 168 #[.slice (some ⟨b,off,none⟩) n c,.string x] w fun e w' => e = .returned (.int .i64 (Lib.idxOfS (zs.take n) x)) ∧ w' = w:=Any.slices_Index_string Tryz.lays109 b off n c zs x w hz hbig hc
open Go.Lib in
theorem Tryz.slices_Index_string_empty (a : Option Addr) (c : Nat) (x : ByteArray) (w : World) :
   Calls Tryz.prog 168 #[.slice a 0 c,.string x] w fun e w' => e = .returned (.int .i64 (Lib.idxOfS [] x)) ∧ w' = w:=Any.slices_Index_string_empty Tryz.lays109 a c x w
def Tryz.lays110_ren : Go.Shelf.Ren:=⟨fun | 110 => 122 | 109 => 168 | n => n,fun | 31 => 23 | 9 => 9 | 4 => 4 | 3 => 3 | 0 => 0 | n => n,fun | n => n⟩
theorem Tryz.lays110 : Go.Proofs.Lays.n110 Tryz.prog Tryz.lays110_ren:={
 mixed:=by kernel_rfl
 f109:=Tryz.func168.trans (congrArg some (by kernel_rfl))
 f110:=Tryz.func122.trans (congrArg some (by kernel_rfl))
 t0:=Tryz.underlying0
 a0:=Tryz.isAgg0
 z0:=Tryz.sizeOf0
 v0:=Tryz.zeroValue0
 t3:=Tryz.underlying3
 a3:=Tryz.isAgg3
 z3:=Tryz.sizeOf3
 v3:=Tryz.zeroValue3
 t4:=Tryz.underlying4
 a4:=Tryz.isAgg4
 z4:=Tryz.sizeOf4
 v4:=Tryz.zeroValue4
 t9:=Tryz.underlying9
 a9:=Tryz.isAgg9
 z9:=Tryz.sizeOf9
 v9:=Tryz.zeroValue9
 t31:=Tryz.underlying23
 a31:=Tryz.isAgg23
 z31:=Tryz.sizeOf23
 v31:=Tryz.zeroValue23 }
open Go.Lib in
theorem Tryz.slices_Contains_string (b off n c : Nat) (zs : List ByteArray) (x : ByteArray) (w : World) (hz : n ≤ zs.length) (hbig : n ≤ 9223372036854775807) (hc : ∀ j, j < zs.length → w.cell? ⟨b, off + j, none⟩ = some (.string (zs.getD j ByteArray.empty))) :
   Calls Tryz.prog 122 #[.slice (some ⟨b,off,none⟩) n c,.string x] w fun e w' => e = .returned (.bool (Lib.containsS (zs.take n) x)) ∧ w' = w:=Any.slices_Contains_string Tryz.lays110 b off n c zs x w hz hbig hc
def Tryz.laysNm216_ren : Go.Shelf.Ren:=⟨fun | 16 => 140 | n => n,fun | 24 => 23 | 9 => 9 | 4 => 4 | n => n,fun | n => n⟩
theorem Tryz.laysNm216 : Go.Proofs.Lays2.n16 Tryz.prog Tryz.laysNm216_ren:={
 mixed:=by kernel_rfl
 f16:=Tryz.func140.trans (congrArg some (by kernel_rfl))
 t4:=Tryz.underlying4
 a4:=Tryz.isAgg4
 z4:=Tryz.sizeOf4
 v4:=Tryz.zeroValue4
 t9:=Tryz.underlying9
 a9:=Tryz.isAgg9
 z9:=Tryz.sizeOf9
 v9:=Tryz.zeroValue9
 t24:=Tryz.underlying23
 a24:=Tryz.isAgg23
 z24:=Tryz.sizeOf23
 v24:=Tryz.zeroValue23
 i9:=by kernel_rfl }
open Go.RowKit Go.Lib in
theorem Tryz.slices_Clone_string (b off n c : Nat) (zs : List ByteArray) (w : World) (hz : n ≤ zs.length) (hbig : n * 16 ≤ 140737488355328) (hc : ∀ j, j < zs.length → w.cell? ⟨b, off + j, none⟩ = some (.string (zs.getD j ByteArray.empty))) :
   Calls Tryz.prog 140 #[.slice (some ⟨b,off,none⟩) n c] w fun e w' => ∃ v',e = .returned v' ∧ w'.ownsRow w.heap.size 9 1 v' n ((zs.take n).map (Value.string)) ∧ v' ≠ .slice none 0 0 ∧ Below w.heap.size w w':=Any.slices_Clone_string Tryz.laysNm216 b off n c zs w hz hbig hc
open Go.RowKit Go.Lib in
theorem Tryz.slices_Clone_string_nil (n c : Nat) (w : World) :
   Calls Tryz.prog 140 #[.slice none n c] w fun e w' => e = .returned (.slice none 0 0) ∧ w' = w:=Any.slices_Clone_string_nil Tryz.laysNm216 n c w
open Go.RowKit Go.Lib in
theorem Tryz.slices_Clone_string_zero (a : Addr) (c : Nat) (w : World) :
   Calls Tryz.prog 140 #[.slice (some a) 0 c] w fun e w' => ∃ v',e = .returned v' ∧ w'.ownsRow w.heap.size 9 1 v' 0 [] ∧ v' ≠ .slice none 0 0 ∧ Below w.heap.size w w':=Any.slices_Clone_string_zero Tryz.laysNm216 a c w
end Go.Proofs
namespace Go.Proofs
open Go.Shelf Go.RowKit Go.Lib
def Tryz.lays167_ren : Go.Shelf.Ren:=⟨fun | 167 => 173 | 240 => 93 | 276 => 150 | n => n,fun | 0 => 0 | 3 => 3 | 4 => 4 | 5 => 5 | 9 => 9 | 20 => 20 | 37 => 98 | 70 => 97 | 72 => 100 | 75 => 105 | 80 => 108 | 164 => 173 | n => n,fun | n => n⟩
theorem Tryz.lays167 : Go.Proofs.Lays.n167 Tryz.prog Tryz.lays167_ren:={
 mixed:=by kernel_rfl
 f167:=Tryz.func173.trans (congrArg some (by kernel_rfl))
 f240:=Tryz.func93.trans (congrArg some (by kernel_rfl))
 f276:=Tryz.func150.trans (congrArg some (by kernel_rfl))
 t0:=Tryz.underlying0
 a0:=Tryz.isAgg0
 z0:=Tryz.sizeOf0
 v0:=Tryz.zeroValue0
 t4:=Tryz.underlying4
 a4:=Tryz.isAgg4
 z4:=Tryz.sizeOf4
 v4:=Tryz.zeroValue4
 t5:=Tryz.underlying5
 a5:=Tryz.isAgg5
 z5:=Tryz.sizeOf5
 v5:=Tryz.zeroValue5
 t9:=Tryz.underlying9
 a9:=Tryz.isAgg9
 z9:=Tryz.sizeOf9
 v9:=Tryz.zeroValue9
 t20:=Tryz.underlying20
 a20:=Tryz.isAgg20
 z20:=Tryz.sizeOf20
 v20:=Tryz.zeroValue20
 t37:=Tryz.underlying98
 a37:=Tryz.isAgg98
 z37:=Tryz.sizeOf98
 v37:=Tryz.zeroValue98
 t70:=Tryz.underlying97
 a70:=Tryz.isAgg97
 z70:=Tryz.sizeOf97
 v70:=Tryz.zeroValue97
 t72:=Tryz.underlying100
 a72:=Tryz.isAgg100
 z72:=Tryz.sizeOf100
 v72:=Tryz.zeroValue100
 t75:=Tryz.underlying105
 a75:=Tryz.isAgg105
 z75:=Tryz.sizeOf105
 v75:=Tryz.zeroValue105
 t164:=Tryz.underlying173
 a164:=Tryz.isAgg173
 z164:=Tryz.sizeOf173
 v164:=Tryz.zeroValue173 }
theorem Tryz.Builder_Extra_167 : Builder.Extra Tryz.prog Tryz.lays167_ren:={
 sizeBuilder:=by kernel_rfl
 liesBuilder:=by kernel_rfl
 t5:=Tryz.underlying5
 a5:=Tryz.isAgg5
 z5:=Tryz.sizeOf5
 v5:=Tryz.zeroValue5
 infoByte:=by kernel_rfl
 cellsByte:=by kernel_rfl
 sizeByte:=by kernel_rfl
 neB5:=by decide }
theorem Tryz.Builder_WriteByte (B b : Nat) (bs : List Value) (c : Int) (w : World) (h : Lib.IsBuilder 100 5 B b bs w) (hlen : bs.length + 1 ≤ 140737488355328) (hBw : B ≤ w.heap.size) :
   Calls Tryz.prog 173 #[.pointer (some ⟨b,0,none⟩),.int .u8 c] w fun e w' => e = .returned .nilIface ∧ (Lib.BuilderAt 100 5 B b (.pointer (some ⟨b,0,none⟩)) (bs ++ [.int .u8 c]) w' ∧ Below B w w'):=Any.Builder_WriteByte Tryz.lays167 Tryz.Builder_Extra_167 B b bs c w h hlen hBw
def Tryz.lays166_ren : Go.Shelf.Ren:=⟨fun | 166 => 52 | 240 => 93 | 276 => 150 | n => n,fun | 0 => 0 | 3 => 3 | 4 => 4 | 5 => 5 | 9 => 9 | 20 => 20 | 37 => 98 | 70 => 97 | 72 => 100 | 75 => 105 | 80 => 108 | 164 => 173 | n => n,fun | n => n⟩
theorem Tryz.lays166 : Go.Proofs.Lays.n166 Tryz.prog Tryz.lays166_ren:={
 mixed:=by kernel_rfl
 f166:=Tryz.func52.trans (congrArg some (by kernel_rfl))
 f240:=Tryz.func93.trans (congrArg some (by kernel_rfl))
 f276:=Tryz.func150.trans (congrArg some (by kernel_rfl))
 t0:=Tryz.underlying0
 a0:=Tryz.isAgg0
 z0:=Tryz.sizeOf0
 v0:=Tryz.zeroValue0
 t3:=Tryz.underlying3
 a3:=Tryz.isAgg3
 z3:=Tryz.sizeOf3
 v3:=Tryz.zeroValue3
 t4:=Tryz.underlying4
 a4:=Tryz.isAgg4
 z4:=Tryz.sizeOf4
 v4:=Tryz.zeroValue4
 t9:=Tryz.underlying9
 a9:=Tryz.isAgg9
 z9:=Tryz.sizeOf9
 v9:=Tryz.zeroValue9
 t20:=Tryz.underlying20
 a20:=Tryz.isAgg20
 z20:=Tryz.sizeOf20
 v20:=Tryz.zeroValue20
 t37:=Tryz.underlying98
 a37:=Tryz.isAgg98
 z37:=Tryz.sizeOf98
 v37:=Tryz.zeroValue98
 t70:=Tryz.underlying97
 a70:=Tryz.isAgg97
 z70:=Tryz.sizeOf97
 v70:=Tryz.zeroValue97
 t72:=Tryz.underlying100
 a72:=Tryz.isAgg100
 z72:=Tryz.sizeOf100
 v72:=Tryz.zeroValue100
 t75:=Tryz.underlying105
 a75:=Tryz.isAgg105
 z75:=Tryz.sizeOf105
 v75:=Tryz.zeroValue105
 t164:=Tryz.underlying173
 a164:=Tryz.isAgg173
 z164:=Tryz.sizeOf173
 v164:=Tryz.zeroValue173 }
theorem Tryz.Builder_Extra_166 : Builder.Extra Tryz.prog Tryz.lays166_ren:={
 sizeBuilder:=by kernel_rfl
 liesBuilder:=by kernel_rfl
 t5:=Tryz.underlying5
 a5:=Tryz.isAgg5
 z5:=Tryz.sizeOf5
 v5:=Tryz.zeroValue5
 infoByte:=by kernel_rfl
 cellsByte:=by kernel_rfl
 sizeByte:=by kernel_rfl
 neB5:=by decide }
theorem Tryz.Builder_WriteString (B b : Nat) (bs : List Value) (s : ByteArray) (w : World) (h : Lib.IsBuilder 100 5 B b bs w) (hlen : bs.length + s.size ≤ 140737488355328) (hBw : B ≤ w.heap.size) :
   Calls Tryz.prog 52 #[.pointer (some ⟨b,0,none⟩),.string s] w fun e w' => e = .returned (.tuple #[.int .i64 s.size,.nilIface]) ∧ (Lib.BuilderAt 100 5 B b (.pointer (some ⟨b,0,none⟩)) (bs ++ Lib.strCells s) w' ∧ Below B w w'):=Any.Builder_WriteString Tryz.lays166 Tryz.Builder_Extra_166 B b bs s w h hlen hBw
end Go.Proofs
