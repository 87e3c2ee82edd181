/- Plain Lean, no program: character code mappings on lists of bytes; what is written is read back; rows of ranges. -/
import Derived.Test.YtibffdaljmmdoaaGreatDoorGPlain
import Derived.Lib.TrimUEq
import Derived.Lib.ValidU
import Derived.Lib.RuneBytes
import Derived.Lib.Join
set_option linter.all false
/- Plain Lean, no program: what the layer of character code mappings computes, said on lists of bytes. -/
namespace Fo

/-- The 16-bit units of bytes; a last odd byte falls away. -/
def unitsN : L → List Nat
  | a :: b :: l => (256 * a.toNat + b.toNat) :: unitsN l
  | _ => []
/-- The characters of units; the flag is false at the end where a surrogate is unpaired. -/
def signsL : List Nat → List (Nat × Bool)
  | [] => []
  | u :: l =>
    if 55296 ≤ u ∧ u < 57344 then
      match l with
      | [] => [(0, false)]
      | v :: l' => if 56320 ≤ u ∨ v < 56320 ∨ 57344 ≤ v then [(0, false)] else (65536 + (u - 55296) * 1024 + (v - 56320), true) :: signsL l'
    else (u, true) :: signsL l
def textOf (l : List (Nat × Bool)) : L := l.flatMap fun x => Go.Lib.encodeRune x.1
def text16 (l : List Nat) : Option L := if (signsL l).all (·.2) then some (textOf (signsL l)) else none
def utfS (s : L) : Option L := if s.length % 2 = 1 then none else text16 (unitsN s)

/-- The code points of a string, broken bytes as U+FFFD. -/
def runesF : Nat → L → List Nat
  | 0, _ => []
  | n + 1, l => if l = [] then [] else (Go.Lib.decodeL l).1 :: runesF n (l.drop (Go.Lib.decodeL l).2)
def runesS (l : L) : List Nat := runesF l.length l
def unitB (n : Nat) : L := [UInt8.ofNat (n / 256), UInt8.ofNat n]
def unitsOf (c : Nat) : L := if 65536 ≤ c then unitB (55296 + (c - 65536) / 1024) ++ unitB (56320 + (c - 65536) % 1024) else unitB c
def unitsR (l : List Nat) : L := l.flatMap unitsOf
def unitsS (s : L) : L := unitsR (runesS s)

def beV (l : L) : Nat := l.foldl (fun v c => 256 * v + c.toNat) 0
abbrev CM := List (Int × L)
/-- The first text of a code stays. -/
def insC : CM → Int → L → CM
  | [], c, s => [(c, s)]
  | (d, t) :: m, c, s => if c < d then (c, s) :: (d, t) :: m else if c = d then (d, t) :: m else (d, t) :: insC m c s
structure CS where
  size : Nat
  told : Nat
  m : CM

/-- The next token, the end too, and what lies behind it. -/
def nextC (l : L) : Res (Tok × L) :=
  match (nextT l).2 with
  | .bad k => .bad k
  | .good t => .good (t, l.drop ((nextT l).1 + t.len))
def tellC (σ : CS) (c : Int) (s : L) : Res CS := if 4096 ≤ σ.told then .bad 6 else .good ⟨σ.size, σ.told + 1, insC σ.m c s⟩
def codeC (σ : CS) (t : Tok) : Res (CS × Int) :=
  if t.kind = 3 ∧ (t.s.length = 1 ∨ t.s.length = 2) ∧ (σ.size = 0 ∨ σ.size = t.s.length) then .good (⟨t.s.length, σ.told, σ.m⟩, (beV t.s : Nat)) else .bad 3
def spanC (σ : CS) (t : Tok) (l : L) : Res (CS × Int × Int × L) :=
  match codeC σ t with
  | .bad k => .bad k
  | .good (σ1, a) =>
    match nextS l with
    | .bad k => .bad k
    | .good (t2, r) =>
      match codeC σ1 t2 with
      | .bad k => .bad k
      | .good (σ2, b) => if a ≤ b then .good (σ2, a, b, r) else .bad 3
def textC (t : Tok) : Res L :=
  if t.kind = 3 then (match utfS t.s with | none => .bad 3 | some x => .good x) else .bad 3
/-- The rest of a row whose last unit rises: ahead of it u, the last unit itself. -/
def riseC (u : List Nat) (last : Nat) (c : Int) : Nat → Nat → CS → Res CS
  | 0, _, σ => .good σ
  | n + 1, k, σ =>
    match text16 (u ++ [last + k]) with
    | none => .bad 2
    | some x =>
      match tellC σ (c + k) x with
      | .bad e => .bad e
      | .good σ' => riseC u last c n (k + 1) σ'
def risingC (σ : CS) (t : Tok) (c : Int) (many : Nat) : Res CS :=
  match textC t with
  | .bad e => .bad e
  | .good _ =>
    if unitsN t.s = [] then .bad 3
    else if 65535 < (unitsN t.s).getLastD 0 + many - 1 then .bad 2
    else riseC (unitsN t.s).dropLast ((unitsN t.s).getLastD 0) c many 0 σ
/-- The texts up to the closing bracket. -/
def sevC : Nat → L → List L → Res (List L × L)
  | 0, _, _ => .bad 0
  | n + 1, l, acc =>
    match nextS l with
    | .bad k => .bad k
    | .good (t, r) =>
      if t.kind = 6 ∧ t.s = [93] then .good (acc, r)
      else match textC t with
        | .bad k => .bad k
        | .good x => sevC n r (acc ++ [x])
def tellAllC : Int → List L → CS → Res CS
  | _, [], σ => .good σ
  | c, x :: l, σ =>
    match tellC σ c x with
    | .bad e => .bad e
    | .good σ' => tellAllC (c + 1) l σ'
/-- The three kinds of sections: their names. -/
def partN : Nat → L
  | 0 => [99, 111, 100, 101, 115, 112, 97, 99, 101, 114, 97, 110, 103, 101]
  | 1 => [98, 102, 99, 104, 97, 114]
  | _ => [98, 102, 114, 97, 110, 103, 101]
def beginN : L := [98, 101, 103, 105, 110]
def endN : L := [101, 110, 100]
def rowC (p : Nat) (t : Tok) (l : L) (σ : CS) : Res (CS × L) :=
  if p = 1 then
    match codeC σ t with
    | .bad k => .bad k
    | .good (σ1, c) =>
      match nextS l with
      | .bad k => .bad k
      | .good (t2, r) =>
        match textC t2 with
        | .bad k => .bad k
        | .good x =>
          match tellC σ1 c x with
          | .bad k => .bad k
          | .good σ2 => .good (σ2, r)
  else
    match spanC σ t l with
    | .bad k => .bad k
    | .good (σ1, a, b, r) =>
      if p = 0 then .good (σ1, r)
      else
        match nextS r with
        | .bad k => .bad k
        | .good (t2, r2) =>
          if t2.kind = 6 ∧ t2.s = [91] then
            match sevC (r2.length + 1) r2 [] with
            | .bad k => .bad k
            | .good (xs, r3) =>
              if (xs.length : Int) = b - a + 1 then
                match tellAllC a xs σ1 with
                | .bad k => .bad k
                | .good σ2 => .good (σ2, r3)
              else .bad 3
          else
            match risingC σ1 t2 a (b - a + 1).toNat with
            | .bad k => .bad k
            | .good σ2 => .good (σ2, r2)
def partC (p : Nat) : Nat → L → CS → Res (CS × L)
  | 0, _, _ => .bad 0
  | n + 1, l, σ =>
    match nextS l with
    | .bad k => .bad k
    | .good (t, r) =>
      if t.kind = 5 ∧ t.s = endN ++ partN p then .good (σ, r)
      else match rowC p t r σ with
        | .bad k => .bad k
        | .good (σ', r') => partC p n r' σ'
def partOf (t : Tok) : Option Nat :=
  if t.kind = 5 then (if t.s = beginN ++ partN 0 then some 0 else if t.s = beginN ++ partN 1 then some 1 else if t.s = beginN ++ partN 2 then some 2 else none) else none
def readF : Nat → L → CS → Res CS
  | 0, _, _ => .bad 0
  | n + 1, l, σ =>
    match nextC l with
    | .bad k => .bad k
    | .good (t, r) =>
      if t.kind = 0 then .good σ
      else match partOf t with
        | none => readF n r σ
        | some p =>
          match partC p (l.length + 1) r σ with
          | .bad k => .bad k
          | .good (σ', r') => readF n r' σ'
def readC (l : L) : Res (CM × Bool) :=
  match readF (l.length + 1) l ⟨0, 0, []⟩ with
  | .bad k => .bad k
  | .good σ => .good (σ.m, σ.size == 2)

def underC (p : Option Int) (c : Int) : Bool := match p with | some q => decide (c < q) | none => false
/-- The first reason why a mapping cannot be written. -/
def checkGo (most : Int) : Option Int → CM → Int
  | _, [] => 0
  | p, (c, s) :: l =>
    if c < 0 ∨ most < c then 2
    else if Go.Lib.validD s = false then 3
    else if 512 < (unitsS s).length then 5
    else if p = some c then 9
    else if underC p c then 1
    else checkGo most (some c) l
def mostC (wide : Bool) : Int := if wide then 65535 else 255
def checkC (l : CM) (wide : Bool) : Int := if 4096 < l.length then 6 else checkGo (mostC wide) none l

def chexD (n : Nat) : UInt8 := if n < 10 then UInt8.ofNat (48 + n) else UInt8.ofNat (55 + n)
def hexL (l : L) : L := l.flatMap fun c => [chexD (c.toNat / 16), chexD (c.toNat % 16)]
def shownL (l : L) : L := 60 :: hexL l ++ [62]
def codeB (c : Nat) (wide : Bool) : L := if wide then unitB c else [UInt8.ofNat c]
def decL : Nat → Nat → L
  | 0, _ => []
  | n + 1, k => if k < 10 then [UInt8.ofNat (48 + k)] else decL n (k / 10) ++ [UInt8.ofNat (48 + k % 10)]
def rowL (wide : Bool) (x : Int × L) : L := shownL (codeB x.1.toNat wide) ++ [32] ++ shownL (unitsS x.2) ++ [10]
def chunkL (wide : Bool) (l : CM) : L :=
  decL 5 l.length ++ [32, 98, 101, 103, 105, 110, 98, 102, 99, 104, 97, 114, 10] ++ l.flatMap (rowL wide) ++ [101, 110, 100, 98, 102, 99, 104, 97, 114, 10]
def chunksL (wide : Bool) : Nat → CM → L
  | 0, _ => []
  | n + 1, l => if l = [] then [] else chunkL wide (l.take 100) ++ chunksL wide n (l.drop 100)
def headL (wide : Bool) : L :=
  [49, 32, 98, 101, 103, 105, 110, 99, 111, 100, 101, 115, 112, 97, 99, 101, 114, 97, 110, 103, 101, 10] ++ shownL (codeB 0 wide) ++ [32] ++ shownL (codeB 65535 wide) ++
  [10, 101, 110, 100, 99, 111, 100, 101, 115, 112, 97, 99, 101, 114, 97, 110, 103, 101, 10]
def bodyC (l : CM) (wide : Bool) : L := headL wide ++ chunksL wide (l.length + 1) l ++ [101, 110, 100, 99, 109, 97, 112, 10]
def writeC (l : CM) (wide : Bool) : Res L := if checkC l wide = 0 then .good (bodyC l wide) else .bad (checkC l wide)
def findC (l : CM) (c : Int) : Option L := (l.find? fun x => x.1 == c).map (·.2)
end Fo
/- Plain Lean, no program: units and code points, there and back. -/
namespace Fo
open Go.Lib

def scalar (c : Nat) : Prop := c < 55296 ∨ (57344 ≤ c ∧ c ≤ 1114111)

/-- What a step of the decoder yields: a code point of at most its width, or a broken byte. -/
theorem decodeN_cases (n b0 b1 b2 b3 : Nat) (h0 : b0 < 256) : scalar (decodeN n b0 b1 b2 b3).1 ∧ 1 ≤ (decodeN n b0 b1 b2 b3).2 ∧ (decodeN n b0 b1 b2 b3).2 ≤ 4 := by
  unfold decodeN scalar
  repeat' split
  all_goals (first | (simp; done) | (simp; omega))
theorem decodeL_scalar (l : L) : scalar (decodeL l).1 := by
  rw [decodeL_N]; exact (decodeN_cases _ _ _ _ _ (UInt8.toNat_lt _)).1
theorem decodeL_width (l : L) : 1 ≤ (decodeL l).2 ∧ (decodeL l).2 ≤ 4 := by
  rw [decodeL_N]; exact (decodeN_cases _ _ _ _ _ (UInt8.toNat_lt _)).2
theorem runesF_scalar : ∀ (n : Nat) (l : L), ∀ c ∈ runesF n l, scalar c
  | 0, _, c, h => by cases h
  | n + 1, l, c, h => by
    rw [runesF] at h
    split at h
    · cases h
    · rcases List.mem_cons.1 h with rfl | h
      · exact decodeL_scalar l
      · exact runesF_scalar n _ c h
theorem runesS_scalar (l : L) : ∀ c ∈ runesS l, scalar c := runesF_scalar _ l
theorem runesF_more : ∀ (n m : Nat) (l : L), l.length ≤ n → l.length ≤ m → runesF n l = runesF m l
  | 0, m, l, h, _ => by
    have : l = [] := List.eq_nil_of_length_eq_zero (by omega)
    subst this
    cases m <;> simp [runesF]
  | n + 1, 0, l, _, h => by
    have : l = [] := List.eq_nil_of_length_eq_zero (by omega)
    subst this
    simp [runesF]
  | n + 1, m + 1, l, h1, h2 => by
    rw [runesF, runesF]
    by_cases h : l = []
    · rw [if_pos h, if_pos h]
    · rw [if_neg h, if_neg h]
      have hp : 0 < l.length := List.length_pos_iff.2 h
      have hw := (decodeL_width l).1
      rw [runesF_more n m _ (by simp; omega) (by simp; omega)]
theorem runesS_cons {l : L} (h : l ≠ []) : runesS l = (decodeL l).1 :: runesS (l.drop (decodeL l).2) := by
  unfold runesS
  have hp : 0 < l.length := List.length_pos_iff.2 h
  have hw := (decodeL_width l).1
  obtain ⟨n, hn⟩ : ∃ n, l.length = n + 1 := ⟨l.length - 1, by omega⟩
  rw [hn, runesF, if_neg h]
  rw [runesF_more n _ _ (by simp; omega) (Nat.le_refl _)]
theorem runesS_nil : runesS [] = [] := rfl

theorem decodeL_encode (c : Nat) (h : scalar c) (l : L) : decodeL (encodeRune (c : Int) ++ l) = (c, (encodeRune (c : Int)).length) := by
  unfold scalar at h
  unfold encodeRune
  by_cases h1 : c ≤ 127
  · rw [encodeRuneZ_one (by omega) (by omega), decodeL_N]
    simp [decodeN]
    rw [if_pos (by omega)]
    simp; omega
  by_cases h2 : c ≤ 2047
  · rw [encodeRuneZ_two (by omega) (by omega), decodeL_N]
    simp [decodeN]
    have e1 : ((192 + (c : Int) / 64).toNat % 256) = 192 + c / 64 := by omega
    have e2 : ((128 + (c : Int) % 64).toNat % 256) = 128 + c % 64 := by omega
    rw [e1, e2]
    rw [if_neg (by omega), if_pos ⟨by omega, by omega⟩, if_pos (by omega)]
    simp; omega
  by_cases h3 : c ≤ 65535
  · rw [encodeRuneZ_three (by omega), decodeL_N]
    simp [decodeN]
    have e1 : ((224 + (c : Int) / 4096).toNat % 256) = 224 + c / 4096 := by omega
    have e2 : ((128 + (c : Int) / 64 % 64).toNat % 256) = 128 + c / 64 % 64 := by omega
    have e3 : ((128 + (c : Int) % 64).toNat % 256) = 128 + c % 64 := by omega
    rw [e1, e2, e3]
    rw [if_neg (by omega), if_neg (by omega), if_pos ⟨by omega, by omega, by omega⟩, if_pos (by omega)]
    simp; omega
  · rw [encodeRuneZ_four (by omega) (by omega), decodeL_N]
    simp [decodeN]
    have e1 : ((240 + (c : Int) / 262144).toNat % 256) = 240 + c / 262144 := by omega
    have e2 : ((128 + (c : Int) / 4096 % 64).toNat % 256) = 128 + c / 4096 % 64 := by omega
    have e3 : ((128 + (c : Int) / 64 % 64).toNat % 256) = 128 + c / 64 % 64 := by omega
    have e4 : ((128 + (c : Int) % 64).toNat % 256) = 128 + c % 64 := by omega
    rw [e1, e2, e3, e4]
    rw [if_neg (by omega), if_neg (by omega), if_neg (by omega), if_pos ⟨by omega, by omega, by omega, by omega⟩, if_pos (by omega)]
    simp; omega
theorem encodeRune_len (c : Nat) : 1 ≤ (encodeRune (c : Int)).length ∧ (encodeRune (c : Int)).length ≤ 4 := by
  have := encodeRuneZ_length (c : Int)
  simpa [encodeRune] using this
def encR (l : List Nat) : L := l.flatMap fun c : Nat => encodeRune (c : Int)
theorem runesS_enc : ∀ (rs : List Nat), (∀ c ∈ rs, scalar c) → runesS (encR rs) = rs
  | [], _ => rfl
  | c :: rs, h => by
    have hc := h c (by simp)
    have e : encR (c :: rs) = encodeRune (c : Int) ++ encR rs := rfl
    have hl := encodeRune_len c
    rw [e, runesS_cons (by intro h0; have := congrArg List.length h0; rw [List.length_append] at this; simp only [List.length_nil] at this; omega), decodeL_encode c hc]
    simp only [List.drop_left]
    rw [runesS_enc rs fun d hd => h d (by simp [hd])]

/-- The units of a code point. -/
def unitsC (c : Nat) : List Nat := if 65536 ≤ c then [55296 + (c - 65536) / 1024, 56320 + (c - 65536) % 1024] else [c]
theorem unitB_unit (u : Nat) (hu : u < 65536) (l : L) : unitsN (unitB u ++ l) = u :: unitsN l := by
  unfold unitB
  simp only [List.cons_append, List.nil_append, unitsN, UInt8.toNat_ofNat']
  congr 1
  omega
theorem unitsN_of (c : Nat) (h : scalar c) (l : L) : unitsN (unitsOf c ++ l) = unitsC c ++ unitsN l := by
  unfold scalar at h
  unfold unitsOf unitsC
  split
  · rw [List.append_assoc, unitB_unit _ (by omega), unitB_unit _ (by omega)]; rfl
  · rw [unitB_unit _ (by omega)]; rfl
theorem unitsN_R : ∀ (rs : List Nat), (∀ c ∈ rs, scalar c) → unitsN (unitsR rs) = rs.flatMap unitsC
  | [], _ => rfl
  | c :: rs, h => by
    have e : unitsR (c :: rs) = unitsOf c ++ unitsR rs := rfl
    rw [e, unitsN_of c (h c (by simp)), unitsN_R rs fun d hd => h d (by simp [hd])]; rfl
theorem signsL_C (c : Nat) (h : scalar c) (us : List Nat) : signsL (unitsC c ++ us) = (c, true) :: signsL us := by
  unfold scalar at h
  unfold unitsC
  split
  · rw [List.cons_append, List.cons_append, List.nil_append, signsL, if_pos (by omega), if_neg (by omega)]
    have e : 65536 + (55296 + (c - 65536) / 1024 - 55296) * 1024 + (56320 + (c - 65536) % 1024 - 56320) = c := by omega
    rw [e]
  · rw [List.cons_append, List.nil_append]
    cases us with
    | nil => simp only [signsL]; rw [if_neg (by omega)]
    | cons v us => rw [signsL, if_neg (by omega)]
theorem signsL_R : ∀ (rs : List Nat), (∀ c ∈ rs, scalar c) → signsL (rs.flatMap unitsC) = rs.map fun c => (c, true)
  | [], _ => rfl
  | c :: rs, h => by
    rw [List.flatMap_cons, signsL_C c (h c (by simp)), signsL_R rs fun d hd => h d (by simp [hd])]; rfl
theorem text16_R (rs : List Nat) (h : ∀ c ∈ rs, scalar c) : text16 (rs.flatMap unitsC) = some (encR rs) := by
  unfold text16
  rw [signsL_R rs h, if_pos (by simp)]
  unfold textOf encR
  rw [List.flatMap_map]
theorem unitB_len (u : Nat) : (unitB u).length = 2 := rfl
theorem unitsOf_len (c : Nat) : (unitsOf c).length = 2 ∨ (unitsOf c).length = 4 := by
  unfold unitsOf; split <;> simp [unitB_len]
theorem unitsR_even : ∀ (rs : List Nat), (unitsR rs).length % 2 = 0
  | [] => rfl
  | c :: rs => by
    have e : unitsR (c :: rs) = unitsOf c ++ unitsR rs := rfl
    have := unitsR_even rs
    have := unitsOf_len c
    rw [e, List.length_append]; omega
theorem utfS_R (rs : List Nat) (h : ∀ c ∈ rs, scalar c) : utfS (unitsR rs) = some (encR rs) := by
  unfold utfS
  rw [if_neg (by have := unitsR_even rs; omega), unitsN_R rs h, text16_R rs h]
/-- Utf turns Units back. -/
theorem utf_units (s : L) : utfS (unitsS s) = some (encR (runesS s)) := utfS_R _ (runesS_scalar s)
theorem units_utf_units (s : L) : unitsS (encR (runesS s)) = unitsS s := by
  unfold unitsS; rw [runesS_enc _ (runesS_scalar s)]

theorem unitsN_lt : ∀ (s : L), ∀ u ∈ unitsN s, u < 65536
  | [], u, h => by simp [unitsN] at h
  | [_], u, h => by simp [unitsN] at h
  | a :: b :: l, u, h => by
    rw [unitsN, List.mem_cons] at h
    rcases h with rfl | h
    · have := UInt8.toNat_lt a; have := UInt8.toNat_lt b; omega
    · exact unitsN_lt l u h
theorem unitB_back (a b : UInt8) : unitB (256 * a.toNat + b.toNat) = [a, b] := by
  unfold unitB
  have ha := UInt8.toNat_lt a
  have hb := UInt8.toNat_lt b
  have e1 : (256 * a.toNat + b.toNat) / 256 = a.toNat := by omega
  have e2 : UInt8.ofNat (256 * a.toNat + b.toNat) = b := by
    apply UInt8.toNat_inj.1
    rw [UInt8.toNat_ofNat']; omega
  rw [e1, e2]; simp
theorem units_back : ∀ (s : L), s.length % 2 = 0 → (unitsN s).flatMap unitB = s
  | [], _ => rfl
  | [_], h => by simp at h
  | a :: b :: l, h => by
    rw [unitsN, List.flatMap_cons, unitB_back, units_back l (by simp at h; omega)]; rfl
theorem signs_back : ∀ (us : List Nat), (∀ u ∈ us, u < 65536) → (signsL us).all (·.2) = true → (∀ x ∈ signsL us, scalar x.1) ∧ (signsL us).flatMap (fun x => unitsOf x.1) = us.flatMap unitB
  | [], _, _ => by simp [signsL]
  | [u], hu, h => by
    have := hu u (by simp)
    rw [signsL] at h ⊢
    by_cases h1 : 55296 ≤ u ∧ u < 57344
    · rw [if_pos h1] at h; simp at h
    · rw [if_neg h1]
      simp only [signsL, List.mem_singleton, List.flatMap_cons, List.flatMap_nil, List.append_nil]
      refine ⟨?_, ?_⟩
      · rintro x rfl; unfold scalar; simp; omega
      · unfold unitsOf; rw [if_neg (by simp; omega)]
  | u :: v :: us, hu, h => by
    have h1u := hu u (by simp)
    have h1v := hu v (by simp)
    rw [signsL] at h ⊢
    by_cases h1 : 55296 ≤ u ∧ u < 57344
    · rw [if_pos h1] at h ⊢
      by_cases h2 : 56320 ≤ u ∨ v < 56320 ∨ 57344 ≤ v
      · rw [if_pos h2] at h; simp at h
      · rw [if_neg h2] at h ⊢
        simp only [List.all_cons, Bool.true_and] at h
        obtain ⟨g1, g2⟩ := signs_back us (fun w hw => hu w (by simp [hw])) h
        refine ⟨?_, ?_⟩
        · intro x hx
          rcases List.mem_cons.1 hx with rfl | hx
          · unfold scalar; simp; omega
          · exact g1 x hx
        · rw [List.flatMap_cons, List.flatMap_cons, List.flatMap_cons, g2]
          unfold unitsOf
          rw [if_pos (by simp; omega)]
          have e1 : 55296 + (65536 + (u - 55296) * 1024 + (v - 56320) - 65536) / 1024 = u := by omega
          have e2 : 56320 + (65536 + (u - 55296) * 1024 + (v - 56320) - 65536) % 1024 = v := by omega
          dsimp only
          rw [e1, e2, List.append_assoc]
    · rw [if_neg h1] at h ⊢
      simp only [List.all_cons, Bool.true_and] at h
      obtain ⟨g1, g2⟩ := signs_back (v :: us) (fun w hw => hu w (by simp at hw ⊢; right; exact hw)) h
      refine ⟨?_, ?_⟩
      · intro x hx
        rcases List.mem_cons.1 hx with rfl | hx
        · unfold scalar; simp; omega
        · exact g1 x hx
      · rw [List.flatMap_cons, List.flatMap_cons, g2]
        unfold unitsOf
        rw [if_neg (by simp; omega)]
/-- Units turns Utf back where that has an answer. -/
theorem units_utf {s u : L} (h : utfS s = some u) : unitsS u = s := by
  unfold utfS at h
  split at h
  · cases h
  · rename_i he
    unfold text16 at h
    split at h
    · rename_i ha
      cases h
      obtain ⟨g1, g2⟩ := signs_back _ (unitsN_lt s) ha
      have e : textOf (signsL (unitsN s)) = encR ((signsL (unitsN s)).map (·.1)) := by
        unfold textOf encR; rw [List.flatMap_map]
      have e2 : unitsR ((signsL (unitsN s)).map (·.1)) = (signsL (unitsN s)).flatMap (fun x => unitsOf x.1) := by
        unfold unitsR; rw [List.flatMap_map]
      unfold unitsS
      rw [e, runesS_enc _ (by intro c hc; obtain ⟨x, hx, rfl⟩ := List.mem_map.1 hc; exact g1 x hx), e2, g2, units_back s (by omega)]
    · cases h
theorem decodeN_back (n b0 b1 b2 b3 : Nat) (h0 : b0 < 256) (h1 : b1 < 256) (h2 : b2 < 256) (h3 : b3 < 256) :
    (decodeN n b0 b1 b2 b3 = (65533, 1)) ∨ ((decodeN n b0 b1 b2 b3).2 = 1 ∧ b0 < 128 ∧ (decodeN n b0 b1 b2 b3).1 = b0) ∨
    ((decodeN n b0 b1 b2 b3).2 = 2 ∧ 1 < n ∧ 128 ≤ (decodeN n b0 b1 b2 b3).1 ∧ (decodeN n b0 b1 b2 b3).1 ≤ 2047 ∧ b0 = 192 + (decodeN n b0 b1 b2 b3).1 / 64 ∧ b1 = 128 + (decodeN n b0 b1 b2 b3).1 % 64) ∨
    ((decodeN n b0 b1 b2 b3).2 = 3 ∧ 2 < n ∧ ((2048 ≤ (decodeN n b0 b1 b2 b3).1 ∧ (decodeN n b0 b1 b2 b3).1 < 55296) ∨ (57343 < (decodeN n b0 b1 b2 b3).1 ∧ (decodeN n b0 b1 b2 b3).1 ≤ 65535)) ∧
      b0 = 224 + (decodeN n b0 b1 b2 b3).1 / 4096 ∧ b1 = 128 + (decodeN n b0 b1 b2 b3).1 / 64 % 64 ∧ b2 = 128 + (decodeN n b0 b1 b2 b3).1 % 64) ∨
    ((decodeN n b0 b1 b2 b3).2 = 4 ∧ 3 < n ∧ 65536 ≤ (decodeN n b0 b1 b2 b3).1 ∧ (decodeN n b0 b1 b2 b3).1 ≤ 1114111 ∧
      b0 = 240 + (decodeN n b0 b1 b2 b3).1 / 262144 ∧ b1 = 128 + (decodeN n b0 b1 b2 b3).1 / 4096 % 64 ∧ b2 = 128 + (decodeN n b0 b1 b2 b3).1 / 64 % 64 ∧ b3 = 128 + (decodeN n b0 b1 b2 b3).1 % 64) := by
  unfold decodeN
  split
  · right; left; dsimp only; omega
  split
  · split
    · right; right; left; dsimp only; omega
    · left; rfl
  split
  · split
    · right; right; right; left; dsimp only; omega
    · left; rfl
  split
  · split
    · right; right; right; right; dsimp only; omega
    · left; rfl
  · left; rfl
theorem toU8_eq (x : Int) (a : UInt8) (h : (a.toNat : Int) = x) : UInt8.ofNat x.toNat = a := by
  subst h; simp
/-- A step of the decoder: a broken byte, or just the bytes that its code point is written as. -/
theorem decodeL_back {l : L} (h : l ≠ []) : ((decodeL l).1 = 65533 ∧ (decodeL l).2 = 1) ∨ (encodeRune ((decodeL l).1 : Nat) = l.take (decodeL l).2 ∧ (decodeL l).2 ≤ l.length) := by
  rw [decodeL_N]
  have hb := decodeN_back l.length _ _ _ _ (UInt8.toNat_lt (l.getD 0 0)) (UInt8.toNat_lt (l.getD 1 0)) (UInt8.toNat_lt (l.getD 2 0)) (UInt8.toNat_lt (l.getD 3 0))
  obtain ⟨d, hd⟩ : ∃ d, decodeN l.length (l.getD 0 0).toNat (l.getD 1 0).toNat (l.getD 2 0).toNat (l.getD 3 0).toNat = d := ⟨_, rfl⟩
  rw [hd] at hb ⊢
  clear hd
  rcases hb with hb | ⟨e, g1, g2⟩ | ⟨e, g0, g1, g2, g3, g4⟩ | ⟨e, g0, g1, g2, g3, g4⟩ | ⟨e, g0, g1, g2, g3, g4, g5, g6⟩
  · left; rw [hb]; simp
  · right
    rw [e]
    match l, h with
    | a :: t, _ =>
      simp at g1 g2
      refine ⟨?_, by simp⟩
      unfold encodeRune
      rw [encodeRuneZ_one (by omega) (by omega), List.map_cons, List.map_nil]
      show [UInt8.ofNat _] = [a]
      rw [toU8_eq _ a (by omega)]
  · right
    rw [e]
    match l, g0 with
    | a :: b :: t, _ =>
      simp at g3 g4
      refine ⟨?_, by simp⟩
      unfold encodeRune
      rw [encodeRuneZ_two (by omega) (by omega), List.map_cons, List.map_cons, List.map_nil]
      show [UInt8.ofNat _, UInt8.ofNat _] = [a, b]
      rw [toU8_eq _ a (by omega), toU8_eq _ b (by omega)]
  · right
    rw [e]
    match l, g0 with
    | a :: b :: c :: t, _ =>
      simp at g2 g3 g4
      refine ⟨?_, by simp⟩
      unfold encodeRune
      rw [encodeRuneZ_three (by omega), List.map_cons, List.map_cons, List.map_cons, List.map_nil]
      show [UInt8.ofNat _, UInt8.ofNat _, UInt8.ofNat _] = [a, b, c]
      rw [toU8_eq _ a (by omega), toU8_eq _ b (by omega), toU8_eq _ c (by omega)]
  · right
    rw [e]
    match l, g0 with
    | a :: b :: c :: d' :: t, _ =>
      simp at g3 g4 g5 g6
      refine ⟨?_, by simp⟩
      unfold encodeRune
      rw [encodeRuneZ_four (by omega) (by omega), List.map_cons, List.map_cons, List.map_cons, List.map_cons, List.map_nil]
      show [UInt8.ofNat _, UInt8.ofNat _, UInt8.ofNat _, UInt8.ofNat _] = [a, b, c, d']
      rw [toU8_eq _ a (by omega), toU8_eq _ b (by omega), toU8_eq _ c (by omega), toU8_eq _ d' (by omega)]
theorem enc_bad : (encodeRune ((65533 : Nat) : Int)).length = 3 := by decide
theorem encR_cons (c : Nat) (rs : List Nat) : encR (c :: rs) = encodeRune (c : Int) ++ encR rs := rfl
theorem encR_ge : ∀ (n : Nat) (l : L), l.length ≤ n → l.length ≤ (encR (runesS l)).length
  | 0, l, h => by omega
  | n + 1, l, h => by
    by_cases h0 : l = []
    · subst h0; simp
    have hp : 0 < l.length := List.length_pos_iff.2 h0
    have hw := (decodeL_width l).1
    have ih := encR_ge n (l.drop (decodeL l).2) (by simp; omega)
    rw [runesS_cons h0, encR_cons, List.length_append]
    simp only [List.length_drop] at ih
    rcases decodeL_back h0 with ⟨h1, h2⟩ | ⟨h1, h2⟩
    · rw [h1, enc_bad]; omega
    · rw [h1, List.length_take]; omega
theorem validGo_iff : ∀ (n : Nat) (l : L), l.length ≤ n → (validGoD n l = true ↔ encR (runesS l) = l)
  | 0, l, h => by
    have : l = [] := List.eq_nil_of_length_eq_zero (by omega)
    subst this; simp [validGoD, runesS_nil, encR]
  | n + 1, l, h => by
    rw [validGoD]
    by_cases h0 : l = []
    · rw [if_pos h0]; subst h0; simp [runesS_nil, encR]
    rw [if_neg h0]
    have hp : 0 < l.length := List.length_pos_iff.2 h0
    have hw := (decodeL_width l).1
    have hg := encR_ge l.length (l.drop (decodeL l).2) (by simp)
    have ih := validGo_iff n (l.drop (decodeL l).2) (by simp; omega)
    rw [runesS_cons h0, encR_cons]
    rcases decodeL_back h0 with ⟨h1, h2⟩ | ⟨h1, h2⟩
    · rw [if_pos ⟨h1, h2⟩]
      refine ⟨fun h => by simp at h, fun h => ?_⟩
      have := congrArg List.length h
      simp only [List.length_append, h1, enc_bad, List.length_drop] at this hg
      omega
    · have hn : ¬ ((decodeL l).1 = 65533 ∧ (decodeL l).2 = 1) := by
        rintro ⟨e1, e2⟩
        have := congrArg List.length h1
        rw [e1, enc_bad, e2, List.length_take] at this
        omega
      rw [if_neg hn, ih, h1]
      constructor
      · intro h; rw [h, List.take_append_drop]
      · intro h
        have h3 : l.take (decodeL l).2 ++ encR (runesS (l.drop (decodeL l).2)) = l.take (decodeL l).2 ++ l.drop (decodeL l).2 := by rw [h, List.take_append_drop]
        exact List.append_cancel_left h3
/-- A text is valid just where its code points are written as it. -/
theorem validD_iff (l : L) : validD l = true ↔ encR (runesS l) = l := validGo_iff _ l (Nat.le_refl _)
theorem unitsR_len : ∀ (rs : List Nat), (unitsR rs).length ≤ 4 * rs.length
  | [] => by simp [unitsR]
  | c :: rs => by
    have e : unitsR (c :: rs) = unitsOf c ++ unitsR rs := rfl
    have := unitsR_len rs
    have := unitsOf_len c
    rw [e]; simp; omega
theorem runesF_len : ∀ (n : Nat) (l : L), (runesF n l).length ≤ l.length
  | 0, l => by simp [runesF]
  | n + 1, l => by
    rw [runesF]
    split
    · simp
    · rename_i h0
      have hp : 0 < l.length := List.length_pos_iff.2 h0
      have hw := (decodeL_width l).1
      have := runesF_len n (l.drop (decodeL l).2)
      simp at this ⊢; omega
theorem unitsS_len (s : L) : (unitsS s).length ≤ 4 * s.length := by
  have := unitsR_len (runesS s)
  have := runesF_len s.length s
  unfold unitsS runesS at *; omega
end Fo
/- Plain Lean, no program: what is written is read back. -/
namespace Fo
open Go.Lib

theorem white_no37 {c : UInt8} (h : white c = true) : (c == 37) = false := by
  by_cases e : c = 37
  · subst e; simp [white] at h
  · simpa using e
theorem nextC_skip {c : UInt8} (l : L) (h : white c = true) : nextC (c :: l) = nextC l := by
  have h37 := white_no37 h
  have e : skipN false (c :: l) = skipN false l + 1 := by simp [skipN, h, h37]
  unfold nextC nextT
  simp only [e, List.drop_succ_cons]
  split
  · rfl
  · rename_i t _
    rw [show skipN false l + 1 + t.len = (skipN false l + t.len) + 1 from by omega, List.drop_succ_cons]
theorem nextC_ws : ∀ (ws l : L), ws.all white = true → nextC (ws ++ l) = nextC l
  | [], _, _ => rfl
  | c :: ws, l, h => by
    simp only [List.all_cons, Bool.and_eq_true] at h
    rw [List.cons_append, nextC_skip _ h.1, nextC_ws ws l h.2]
theorem nextS_C (l : L) : nextS l = match nextC l with | .bad k => .bad k | .good (t, r) => if t.kind = 0 then .bad 4 else .good (t, r) := by
  unfold nextS nextC
  cases (nextT l).2 with
  | bad k => rfl
  | good t => rfl
theorem nextS_good' {l : L} {t : Tok} {r : L} (h : nextC l = .good (t, r)) (hk : t.kind ≠ 0) : nextS l = .good (t, r) := by
  rw [nextS_C, h]; simp [hk]
theorem nextC_at {l : L} {t : Tok} (h0 : skipN false l = 0) (hl : l ≠ []) (ht : tokT l = .good t) : nextC l = .good (t, l.drop t.len) := by
  unfold nextC nextT
  simp only [h0, List.drop_zero, if_neg hl, ht, Nat.zero_add]
theorem regN_word : ∀ (wd : L) (c : UInt8) (l : L), wd.all regular = true → regular c = false → regN (wd ++ c :: l) = wd.length
  | [], c, l, _, hc => by simp [regN, hc]
  | d :: wd, c, l, h, hc => by
    simp only [List.all_cons, Bool.and_eq_true] at h
    simp only [List.cons_append, regN, h.1, if_true, List.length_cons, regN_word wd c l h.2 hc]
theorem regular_head {c : UInt8} (h : regular c = true) : white c = false ∧ (c == 37) = false ∧ (c == 91 || c == 93 || c == 123 || c == 125) = false ∧ (c == 60) = false ∧ (c == 62) = false ∧ (c == 47) = false ∧ (c == 40) = false ∧ (c == 41) = false := by
  unfold regular at h
  simp only [Bool.and_eq_true, Bool.not_eq_true'] at h
  obtain ⟨h1, h2⟩ := h
  unfold delim at h2
  simp only [Bool.or_eq_false_iff] at h2
  simp only [Bool.or_eq_false_iff]
  refine ⟨h1, ?_⟩
  simp_all
theorem nextC_word {wd : L} {c : UInt8} {l : L} {t : Tok} (hw : wordT wd = .good t) (hr : wd.all regular = true) (hne : wd ≠ []) (hc : regular c = false) :
    nextC (wd ++ c :: l) = .good (t, c :: l) := by
  obtain ⟨d, w, rfl⟩ : ∃ d w, wd = d :: w := by
    cases wd with
    | nil => exact absurd rfl hne
    | cons d w => exact ⟨d, w, rfl⟩
  have hd : regular d = true := by simp only [List.all_cons, Bool.and_eq_true] at hr; exact hr.1
  obtain ⟨g1, g2, g3, g4, g5, g6, g7, g8⟩ := regular_head hd
  have ht : tokT (d :: w ++ c :: l) = .good t := by
    have hn := regN_word (d :: w) c l hr hc
    rw [List.cons_append] at hn ⊢
    unfold tokT
    simp only [g3, g4, g5, g6, g7, g8, Bool.false_eq_true, if_false]
    rw [hn, ← List.cons_append, List.take_left, hw]
  have hlen := (wordT_good hw).1
  rw [nextC_at (by simp [skipN, g1, g2]) (by simp) ht, hlen, List.drop_left]

theorem hexD_facts : ∀ d, d < 16 → (chexD d == 62) = false ∧ white (chexD d) = false ∧ hexv (chexD d) = (d : Int) ∧ (chexD d == 60) = false ∧ regular (chexD d) = true := by decide
theorem hexS_L : ∀ (x acc : L) (n : Nat) (l : L), hexS acc n (-1) (hexL x ++ 62 :: l) = .good (acc ++ x, n + 2 * x.length + 1)
  | [], acc, n, l => by simp [hexL, hexS]
  | c :: x, acc, n, l => by
    have hc := UInt8.toNat_lt c
    obtain ⟨a1, a2, a3, _⟩ := hexD_facts (c.toNat / 16) (by omega)
    obtain ⟨b1, b2, b3, _⟩ := hexD_facts (c.toNat % 16) (by omega)
    have e : hexL (c :: x) = chexD (c.toNat / 16) :: chexD (c.toNat % 16) :: hexL x := rfl
    rw [e, List.cons_append, List.cons_append, hexS, a1, a2, a3]
    simp only [Bool.false_eq_true, if_false]
    rw [if_neg (by omega), if_pos (by omega), hexS, b1, b2, b3]
    simp only [Bool.false_eq_true, if_false]
    rw [if_neg (by omega), if_neg (by omega), hexS_L x]
    have ev : UInt8.ofNat (16 * ((c.toNat / 16 : Nat) : Int) + ((c.toNat % 16 : Nat) : Int)).toNat = c := by
      have : (16 * ((c.toNat / 16 : Nat) : Int) + ((c.toNat % 16 : Nat) : Int)).toNat = c.toNat := by omega
      rw [this]; simp
    rw [ev]
    simp
    omega
theorem hexL_len (x : L) : (hexL x).length = 2 * x.length := by
  induction x with
  | nil => rfl
  | cons c x ih =>
    have e : hexL (c :: x) = chexD (c.toNat / 16) :: chexD (c.toNat % 16) :: hexL x := rfl
    rw [e]; simp [ih]; omega
theorem shownL_len (x : L) : (shownL x).length = 2 * x.length + 2 := by simp [shownL, hexL_len]
theorem nextC_hex (x l : L) (hx : x.length ≤ 32767) : nextC (shownL x ++ l) = .good (⟨3, 2 * x.length + 2, 0, x⟩, l) := by
  have e : shownL x ++ l = 60 :: (hexL x ++ 62 :: l) := by simp [shownL]
  have hh : ¬ (hexL x ++ 62 :: l).head? = some 60 := by
    cases x with
    | nil => simp [hexL]
    | cons c x =>
      have e : hexL (c :: x) = chexD (c.toNat / 16) :: chexD (c.toNat % 16) :: hexL x := rfl
      have hc := UInt8.toNat_lt c
      obtain ⟨_, _, _, a4, _⟩ := hexD_facts (c.toNat / 16) (by omega)
      rw [e]; simpa using a4
  have ht : tokT (shownL x ++ l) = .good ⟨3, 2 * x.length + 2, 0, x⟩ := by
    rw [e]
    unfold tokT
    simp only [if_neg hh]
    simp only [show ((60 : UInt8) == 91 || (60 : UInt8) == 93 || (60 : UInt8) == 123 || (60 : UInt8) == 125) = false from by decide, show ((60 : UInt8) == 60) = true from by decide, Bool.false_eq_true, if_false, if_true]
    unfold hexT
    rw [hexS_L]
    unfold strOf told
    simp only [List.nil_append]
    rw [if_neg (by omega)]
    simp
  rw [nextC_at (by rw [e]; rfl) (by rw [e]; simp) ht]
  congr 1
  show _ = (_, l)
  congr 1
  have := shownL_len x
  rw [show 2 * x.length + 2 = (shownL x).length from this.symm, List.drop_left]

/-! the codes -/
theorem beV_one (c : Nat) (h : c < 256) : beV [UInt8.ofNat c] = c := by simp [beV]; omega
theorem beV_two (c : Nat) (h : c < 65536) : beV (unitB c) = c := by simp [beV, unitB]; omega
def sizeC (wide : Bool) : Nat := if wide then 2 else 1
theorem codeB_len (c : Nat) (wide : Bool) : (codeB c wide).length = sizeC wide := by cases wide <;> rfl
theorem beV_codeB (c : Nat) (wide : Bool) (h : (c : Int) ≤ mostC wide) : beV (codeB c wide) = c := by
  cases wide
  · exact beV_one c (by simp [mostC] at h; omega)
  · exact beV_two c (by simp [mostC] at h; omega)
theorem codeC_B (σ : CS) (c : Nat) (wide : Bool) (h : (c : Int) ≤ mostC wide) (hs : σ.size = 0 ∨ σ.size = sizeC wide) (n : Nat) (m : Int) :
    codeC σ ⟨3, n, m, codeB c wide⟩ = .good (⟨sizeC wide, σ.told, σ.m⟩, c) := by
  unfold codeC
  have hl := codeB_len c wide
  rw [if_pos ⟨rfl, by rw [hl]; cases wide <;> simp [sizeC], by rw [hl]; exact hs⟩, beV_codeB c wide h, hl]

theorem insC_snoc : ∀ (m : CM) (c : Int) (s : L), (∀ x ∈ m, x.1 < c) → insC m c s = m ++ [(c, s)]
  | [], _, _, _ => rfl
  | (d, t) :: m, c, s, h => by
    have hd : d < c := h (d, t) (by simp)
    rw [insC, if_neg (by omega), if_neg (by omega), insC_snoc m c s fun x hx => h x (by simp [hx])]; rfl

structure okC (most : Int) (x : Int × L) : Prop where
  low : 0 ≤ x.1
  high : x.1 ≤ most
  valid : validD x.2 = true
  short : (unitsS x.2).length ≤ 512
theorem checkGo_ok : ∀ (most : Int) (p : Option Int) (l : CM), checkGo most p l = 0 → (∀ x ∈ l, okC most x) ∧ (∀ q, p = some q → ∀ x ∈ l, q < x.1) ∧ l.Pairwise fun x y => x.1 < y.1
  | _, _, [], _ => ⟨by simp, by simp, List.Pairwise.nil⟩
  | most, p, (c, s) :: l, h => by
    unfold checkGo at h
    split at h
    · cases h
    split at h
    · cases h
    split at h
    · cases h
    split at h
    · cases h
    split at h
    · cases h
    rename_i h1 h2 h3 h4 h5
    obtain ⟨g1, g2, g3⟩ := checkGo_ok most (some c) l h
    have hv : validD s = true := by simpa using h2
    refine ⟨?_, ?_, ?_⟩
    · intro x hx
      rcases List.mem_cons.1 hx with rfl | hx
      · exact ⟨by dsimp only; omega, by dsimp only; omega, hv, by dsimp only; omega⟩
      · exact g1 x hx
    · rintro q rfl x hx
      have hq : q < c := by
        simp [underC] at h4 h5
        omega
      rcases List.mem_cons.1 hx with rfl | hx
      · exact hq
      · have := g2 c rfl x hx; omega
    · exact List.Pairwise.cons (fun x hx => g2 c rfl x hx) g3

theorem utf_of_valid {s : L} (h : validD s = true) : utfS (unitsS s) = some s := by
  rw [utf_units, (validD_iff s).1 h]
theorem partC_ws (p : Nat) (n : Nat) (ws l : L) (σ : CS) (h : ws.all white = true) : partC p n (ws ++ l) σ = partC p n l σ := by
  cases n with
  | zero => rfl
  | succ n =>
    have e : nextS (ws ++ l) = nextS l := by rw [nextS_C, nextS_C, nextC_ws ws l h]
    rw [partC, partC, e]
def endW (p : Nat) : L := endN ++ partN p
theorem endW_word (p : Nat) (l : L) : nextC (endW p ++ 10 :: l) = .good (⟨5, (endW p).length, 0, endW p⟩, 10 :: l) := by
  match p with
  | 0 => exact nextC_word (by rfl) (by decide) (by decide) (by decide)
  | 1 => exact nextC_word (by rfl) (by decide) (by decide) (by decide)
  | n + 2 => exact nextC_word (wd := endW 2) (by rfl) (by decide) (by decide) (by decide)
theorem partC_end (p n : Nat) (l : L) (σ : CS) : partC p (n + 1) (endW p ++ 10 :: l) σ = .good (σ, 10 :: l) := by
  rw [partC, nextS_good' (endW_word p l) (by simp)]
  simp [endW]
theorem rowC_bf (wide : Bool) (x : Int × L) (l : L) (σ : CS) (hx : okC (mostC wide) x) (hs : σ.size = 0 ∨ σ.size = sizeC wide) (ht : σ.told < 4096) (hm : ∀ y ∈ σ.m, y.1 < x.1) (n : Nat) (m : Int) :
    rowC 1 ⟨3, n, m, codeB x.1.toNat wide⟩ (32 :: (shownL (unitsS x.2) ++ 10 :: l)) σ = .good (⟨sizeC wide, σ.told + 1, σ.m ++ [x]⟩, 10 :: l) := by
  have h1 := hx.low
  have h2 := hx.high
  have hc : ((x.1.toNat : Nat) : Int) = x.1 := by omega
  unfold rowC
  rw [if_pos rfl, codeC_B σ x.1.toNat wide (by omega) hs, hc]
  dsimp only
  rw [nextS_good' ((nextC_skip _ (by decide)).trans (nextC_hex _ _ (by have := hx.short; omega))) (by simp)]
  dsimp only
  unfold textC
  simp only [if_true, utf_of_valid hx.valid]
  unfold tellC
  simp only
  rw [if_neg (by omega), insC_snoc _ _ _ hm]
theorem partC_rows (wide : Bool) : ∀ (rows : CM) (n : Nat) (l : L) (σ : CS), rows.length < n → (∀ x ∈ rows, okC (mostC wide) x) → (σ.size = 0 ∨ σ.size = sizeC wide) → rows ≠ [] → σ.told + rows.length ≤ 4096 →
    (∀ y ∈ σ.m, ∀ x ∈ rows, y.1 < x.1) → (rows.Pairwise fun x y => x.1 < y.1) →
    partC 1 n (rows.flatMap (rowL wide) ++ (endW 1 ++ 10 :: l)) σ = .good (⟨sizeC wide, σ.told + rows.length, σ.m ++ rows⟩, 10 :: l)
  | [], _, _, _, _, _, _, h, _, _, _ => absurd rfl h
  | x :: rows, n + 1, l, σ, hn, hok, hs, _, ht, hm, hp => by
    have hx := hok x (by simp)
    have e : (x :: rows).flatMap (rowL wide) ++ (endW 1 ++ 10 :: l) = shownL (codeB x.1.toNat wide) ++ (32 :: (shownL (unitsS x.2) ++ 10 :: (rows.flatMap (rowL wide) ++ (endW 1 ++ 10 :: l)))) := by
      simp [List.flatMap_cons, rowL]
    rw [e, partC, nextS_good' (nextC_hex _ _ (by rw [codeB_len]; cases wide <;> simp [sizeC])) (by simp)]
    dsimp only
    rw [if_neg (by simp), rowC_bf wide x _ σ hx hs (by simp at ht; omega) (fun y hy => hm y hy x (by simp))]
    dsimp only
    rw [show (10 :: (rows.flatMap (rowL wide) ++ (endW 1 ++ 10 :: l))) = [10] ++ (rows.flatMap (rowL wide) ++ (endW 1 ++ 10 :: l)) from rfl, partC_ws _ _ _ _ _ (by decide)]
    obtain ⟨hp1, hp2⟩ := List.pairwise_cons.1 hp
    by_cases hr : rows = []
    · subst hr
      obtain ⟨k, rfl⟩ : ∃ k, n = k + 1 := ⟨n - 1, by simp at hn; omega⟩
      simp only [List.flatMap_nil, List.nil_append]
      rw [partC_end]
      simp
    · rw [partC_rows wide rows n l _ (by simp at hn; omega) (fun y hy => hok y (by simp [hy])) (Or.inr rfl) hr (by simp at ht ⊢; omega) (by
        intro y hy z hz
        simp only [List.mem_append, List.mem_singleton] at hy
        rcases hy with hy | rfl
        · exact hm y hy z (by simp [hz])
        · exact hp1 z hz) hp2]
      simp
      omega

theorem dec_facts : ∀ k, k < 101 → (match wordT (decL 5 k) with | .good t => t.kind == 1 | .bad _ => false) = true ∧ (decL 5 k).all regular = true ∧ (decL 5 k).isEmpty = false := by decide +kernel
theorem decL_int (k : Nat) (h : k ≤ 100) : ∃ t, wordT (decL 5 k) = .good t ∧ t.kind = 1 ∧ (decL 5 k).all regular = true ∧ decL 5 k ≠ [] := by
  obtain ⟨h1, h2, h3⟩ := dec_facts k (by omega)
  split at h1
  · rename_i t ht
    exact ⟨t, ht, by simpa using h1, h2, by intro h; rw [h] at h3; cases h3⟩
  · cases h1
theorem readF_int (n : Nat) (ws wd l : L) (c : UInt8) (σ : CS) {t : Tok} (hws : ws.all white = true) (h1 : wordT wd = .good t) (h2 : t.kind = 1) (h3 : wd.all regular = true) (h4 : wd ≠ []) (hc : regular c = false) :
    readF (n + 1) (ws ++ (wd ++ c :: l)) σ = readF n (c :: l) σ := by
  rw [readF, nextC_ws _ _ hws, nextC_word h1 h3 h4 hc]
  dsimp only
  rw [if_neg (by omega)]
  unfold partOf
  rw [if_neg (by omega)]
def begW (p : Nat) : L := beginN ++ partN p
theorem begW_word (p : Nat) (l : L) : nextC (begW p ++ 10 :: l) = .good (⟨5, (begW p).length, 0, begW p⟩, 10 :: l) := by
  match p with
  | 0 => exact nextC_word (by rfl) (by decide) (by decide) (by decide)
  | 1 => exact nextC_word (by rfl) (by decide) (by decide) (by decide)
  | n + 2 => exact nextC_word (wd := begW 2) (by rfl) (by decide) (by decide) (by decide)
theorem partOf_beg (p : Nat) (hp : p ≤ 2) (n : Nat) (m : Int) : partOf ⟨5, n, m, begW p⟩ = some p := by
  match p, hp with
  | 0, _ => simp [partOf, begW, beginN, partN]
  | 1, _ => simp [partOf, begW, beginN, partN]
  | 2, _ => simp [partOf, begW, beginN, partN]
theorem readF_part (n p : Nat) (hp : p ≤ 2) (ws l : L) (σ σ' : CS) (r : L) (hws : ws.all white = true) (h : partC p ((ws ++ (begW p ++ 10 :: l)).length + 1) (10 :: l) σ = .good (σ', r)) :
    readF (n + 1) (ws ++ (begW p ++ 10 :: l)) σ = readF n r σ' := by
  rw [readF, nextC_ws _ _ hws, begW_word]
  dsimp only
  rw [if_neg (by decide), partOf_beg p hp]
  dsimp only
  rw [h]
def tailL : L := [101, 110, 100, 99, 109, 97, 112, 10]
theorem readF_tail (n : Nat) (ws : L) (σ : CS) (hws : ws.all white = true) : readF (n + 2) (ws ++ tailL) σ = .good σ := by
  have e : tailL = [101, 110, 100, 99, 109, 97, 112] ++ 10 :: [] := rfl
  have hw : nextC tailL = .good (⟨5, 7, 0, [101, 110, 100, 99, 109, 97, 112]⟩, [10]) := by
    rw [e]; exact nextC_word (by rfl) (by decide) (by decide) (by decide)
  rw [readF, nextC_ws _ _ hws, hw]
  dsimp only
  rw [if_neg (by decide), show partOf ⟨5, 7, 0, [101, 110, 100, 99, 109, 97, 112]⟩ = none from by decide]
  dsimp only
  rw [readF]
  rfl
theorem take_facts {l : CM} (h : l ≠ []) : (l.take 100) ≠ [] ∧ (l.take 100).length ≤ 100 ∧ (l.take 100).length + (l.drop 100).length = l.length := by
  refine ⟨?_, by simp; omega, by simp; omega⟩
  intro h0
  rw [List.take_eq_nil_iff] at h0
  simp at h0; exact h h0
theorem rows_len (wide : Bool) : ∀ (tk : CM), tk.length ≤ (tk.flatMap (rowL wide)).length
  | [] => by simp
  | x :: tk => by
    have := rows_len wide tk
    have h1 : 1 ≤ (rowL wide x).length := by simp only [rowL, List.length_append, List.length_cons]; omega
    rw [List.flatMap_cons, List.length_append, List.length_cons]
    omega
theorem readF_chunks (wide : Bool) : ∀ (n : Nat) (l : CM) (ws : L) (σ : CS) (fuel : Nat), l.length ≤ n → ws.all white = true → (∀ x ∈ l, okC (mostC wide) x) → σ.size = sizeC wide → σ.told + l.length ≤ 4096 →
    (∀ y ∈ σ.m, ∀ x ∈ l, y.1 < x.1) → (l.Pairwise fun x y => x.1 < y.1) → (ws ++ (chunksL wide n l ++ tailL)).length < fuel →
    readF fuel (ws ++ (chunksL wide n l ++ tailL)) σ = .good ⟨sizeC wide, σ.told + l.length, σ.m ++ l⟩
  | 0, l, ws, σ, fuel, hn, hws, _, hs, _, _, _, hf => by
    have : l = [] := List.eq_nil_of_length_eq_zero (by omega)
    subst this
    obtain ⟨k, rfl⟩ : ∃ k, fuel = k + 2 := ⟨fuel - 2, by simp [tailL, chunksL] at hf; omega⟩
    rw [chunksL, List.nil_append, readF_tail _ _ _ hws]
    simp [← hs]
  | n + 1, l, ws, σ, fuel, hn, hws, hok, hs, ht, hm, hp, hf => by
    rw [chunksL] at hf ⊢
    by_cases h0 : l = []
    · rw [if_pos h0] at hf ⊢
      subst h0
      obtain ⟨k, rfl⟩ : ∃ k, fuel = k + 2 := ⟨fuel - 2, by simp [tailL] at hf; omega⟩
      rw [List.nil_append, readF_tail _ _ _ hws]
      simp [← hs]
    · rw [if_neg h0] at hf ⊢
      obtain ⟨t1, t2, t3⟩ := take_facts h0
      obtain ⟨tk, htk⟩ : ∃ tk, l.take 100 = tk := ⟨_, rfl⟩
      obtain ⟨dr, hdr⟩ : ∃ dr, l.drop 100 = dr := ⟨_, rfl⟩
      have hl : l = tk ++ dr := by rw [← htk, ← hdr, List.take_append_drop]
      rw [htk] at t1 t2 t3 hf ⊢
      rw [hdr] at t3 hf ⊢
      clear htk hdr
      subst hl
      obtain ⟨t, g1, g2, g3, g4⟩ := decL_int tk.length t2
      have tl : 0 < tk.length := List.length_pos_iff.2 t1
      have e : ws ++ (chunkL wide tk ++ chunksL wide n dr ++ tailL) = ws ++ (decL 5 tk.length ++ 32 :: (begW 1 ++ 10 :: (tk.flatMap (rowL wide) ++ (endW 1 ++ 10 :: (chunksL wide n dr ++ tailL))))) := by
        simp [chunkL, begW, endW, beginN, endN, partN]
      rw [e] at hf ⊢
      obtain ⟨k, rfl⟩ : ∃ k, fuel = k + 2 := ⟨fuel - 2, by simp [begW, beginN] at hf; omega⟩
      obtain ⟨hp1, hp2, hp3⟩ := List.pairwise_append.1 hp
      have hrl := rows_len wide tk
      rw [readF_int _ _ _ _ _ _ hws g1 g2 g3 g4 (by decide)]
      rw [show 32 :: (begW 1 ++ 10 :: (tk.flatMap (rowL wide) ++ (endW 1 ++ 10 :: (chunksL wide n dr ++ tailL)))) = [32] ++ (begW 1 ++ 10 :: (tk.flatMap (rowL wide) ++ (endW 1 ++ 10 :: (chunksL wide n dr ++ tailL)))) from rfl]
      rw [readF_part k 1 (by decide) [32] _ σ ⟨sizeC wide, σ.told + tk.length, σ.m ++ tk⟩ (10 :: (chunksL wide n dr ++ tailL)) (by decide) (by
        rw [show 10 :: (tk.flatMap (rowL wide) ++ (endW 1 ++ 10 :: (chunksL wide n dr ++ tailL))) = [10] ++ (tk.flatMap (rowL wide) ++ (endW 1 ++ 10 :: (chunksL wide n dr ++ tailL))) from rfl, partC_ws _ _ _ _ _ (by decide)]
        exact partC_rows wide tk _ _ σ (by simp at hrl ⊢; omega) (fun x hx => hok x (by simp [hx])) (Or.inr hs) t1 (by simp at ht; omega) (fun y hy x hx => hm y hy x (by simp [hx])) hp1)]
      rw [show 10 :: (chunksL wide n dr ++ tailL) = [10] ++ (chunksL wide n dr ++ tailL) from rfl]
      rw [readF_chunks wide n dr [10] _ k (by simp at hn; omega) (by decide) (fun x hx => hok x (by simp [hx])) rfl (by simp at ht ⊢; omega) (by
        intro y hy x hx
        simp only [List.mem_append] at hy
        rcases hy with hy | hy
        · exact hm y hy x (by simp [hx])
        · exact hp3 y hy x hx) hp2 (by simp at hf ⊢; omega)]
      simp
      omega
theorem two_le {n : Nat} (h : 1 ≤ n) : ∃ k, n + 1 = k + 2 := ⟨n - 1, by omega⟩
theorem partC_space (wide : Bool) (X : L) (f : Nat) (hf : 2 ≤ f) : partC 0 f (10 :: (shownL (codeB 0 wide) ++ (32 :: (shownL (codeB 65535 wide) ++ (10 :: (endW 0 ++ 10 :: X)))))) ⟨0, 0, []⟩ = .good (⟨sizeC wide, 0, []⟩, 10 :: X) := by
  obtain ⟨k, rfl⟩ : ∃ k, f = k + 2 := ⟨f - 2, by omega⟩
  have hb : (codeB 65535 wide) = codeB (mostC wide).toNat wide := by cases wide <;> decide
  have h0 : (0 : Int) ≤ mostC wide := by cases wide <;> decide
  rw [partC, nextS_good' ((nextC_skip _ (by decide)).trans (nextC_hex _ _ (by rw [codeB_len]; cases wide <;> simp [sizeC]))) (by simp)]
  dsimp only
  rw [if_neg (by simp)]
  unfold rowC
  rw [if_neg (by decide)]
  unfold spanC
  rw [codeC_B _ 0 wide (by simpa using h0) (Or.inl rfl)]
  dsimp only
  rw [nextS_good' ((nextC_skip _ (by decide)).trans (nextC_hex _ _ (by rw [codeB_len]; cases wide <;> simp [sizeC]))) (by simp), hb]
  dsimp only
  rw [codeC_B _ (mostC wide).toNat wide (by omega) (Or.inr rfl)]
  dsimp only
  rw [if_pos (by omega)]
  simp only [if_true]
  rw [show ∀ Y : L, 10 :: Y = [10] ++ Y from fun _ => rfl, partC_ws _ _ _ _ _ (by decide)]
  exact partC_end 0 k X _
/-- The section of the codes' space. -/
theorem readF_head (wide : Bool) (fuel : Nat) (X : L) :
    readF (fuel + 2) (headL wide ++ X) ⟨0, 0, []⟩ = readF fuel (10 :: X) ⟨sizeC wide, 0, []⟩ := by
  have e : headL wide ++ X = [] ++ ([49] ++ 32 :: (begW 0 ++ 10 :: (shownL (codeB 0 wide) ++ (32 :: (shownL (codeB 65535 wide) ++ (10 :: (endW 0 ++ 10 :: X))))))) := by
    simp [headL, begW, endW, beginN, endN, partN]
  rw [e, readF_int (fuel + 1) [] [49] _ 32 _ (by decide) (t := ⟨1, 1, 1, []⟩) (by rfl) (by decide) (by decide) (by decide) (by decide)]
  exact readF_part fuel 0 (by decide) [32] _ _ ⟨sizeC wide, 0, []⟩ (10 :: X) (by decide) (partC_space wide X _ (by simp))
/-- What is written is read back. -/
theorem readC_body (l : CM) (wide : Bool) (h : checkC l wide = 0) : readC (bodyC l wide) = .good (l, wide) := by
  unfold checkC at h
  split at h
  · cases h
  rename_i hl
  obtain ⟨h1, _, h3⟩ := checkGo_ok _ _ _ h
  have e : bodyC l wide = headL wide ++ (chunksL wide (l.length + 1) l ++ tailL) := by
    unfold bodyC tailL; rw [List.append_assoc]
  unfold readC
  obtain ⟨k, hk⟩ := two_le (n := (bodyC l wide).length) (by rw [e]; simp [headL])
  rw [hk, e, readF_head wide k _]
  rw [show ∀ Y : L, 10 :: Y = [10] ++ Y from fun _ => rfl]
  rw [readF_chunks wide (l.length + 1) l [10] ⟨sizeC wide, 0, []⟩ k (by omega) (by decide) h1 rfl (by simp; omega) (by simp) h3 (by rw [e] at hk; simp [headL] at hk ⊢; omega)]
  cases wide <;> simp [sizeC]
end Fo
/- Plain Lean, no program: a row of a range stands for a row for each of its codes. -/
namespace Fo
open Go.Lib

theorem regN_all : ∀ (wd : L), wd.all regular = true → regN wd = wd.length
  | [], _ => rfl
  | d :: wd, h => by
    simp only [List.all_cons, Bool.and_eq_true] at h
    simp only [regN, h.1, if_true, List.length_cons, regN_all wd h.2]
theorem nextC_last {wd : L} {t : Tok} (hw : wordT wd = .good t) (hr : wd.all regular = true) (hne : wd ≠ []) : nextC wd = .good (t, []) := by
  obtain ⟨d, w, rfl⟩ : ∃ d w, wd = d :: w := by
    cases wd with
    | nil => exact absurd rfl hne
    | cons d w => exact ⟨d, w, rfl⟩
  have hd : regular d = true := by simp only [List.all_cons, Bool.and_eq_true] at hr; exact hr.1
  obtain ⟨g1, g2, g3, g4, g5, g6, g7, g8⟩ := regular_head hd
  have ht : tokT (d :: w) = .good t := by
    have hn := regN_all (d :: w) hr
    unfold tokT
    simp only [g3, g4, g5, g6, g7, g8, Bool.false_eq_true, if_false]
    rw [hn, List.take_length, hw]
  have hlen := (wordT_good hw).1
  rw [nextC_at (by simp [skipN, g1, g2]) (by simp) ht, hlen, List.drop_length]
theorem endW_sp (p : Nat) (l : L) : nextC (endW p ++ 32 :: l) = .good (⟨5, (endW p).length, 0, endW p⟩, 32 :: l) := by
  match p with
  | 0 => exact nextC_word (by rfl) (by decide) (by decide) (by decide)
  | 1 => exact nextC_word (by rfl) (by decide) (by decide) (by decide)
  | n + 2 => exact nextC_word (wd := endW 2) (by rfl) (by decide) (by decide) (by decide)
theorem begW_sp (p : Nat) (l : L) : nextC (begW p ++ 32 :: l) = .good (⟨5, (begW p).length, 0, begW p⟩, 32 :: l) := by
  match p with
  | 0 => exact nextC_word (by rfl) (by decide) (by decide) (by decide)
  | 1 => exact nextC_word (by rfl) (by decide) (by decide) (by decide)
  | n + 2 => exact nextC_word (wd := begW 2) (by rfl) (by decide) (by decide) (by decide)
theorem endW_last (p : Nat) : nextC (endW p) = .good (⟨5, (endW p).length, 0, endW p⟩, []) := by
  match p with
  | 0 => exact nextC_last (by rfl) (by decide) (by decide)
  | 1 => exact nextC_last (by rfl) (by decide) (by decide)
  | n + 2 => exact nextC_last (wd := endW 2) (by rfl) (by decide) (by decide)

/-- The text of code points behind which one more unit stands. -/
def tx (rs : List Nat) (u : Nat) : L := unitsR rs ++ unitB u
theorem unitsN_app : ∀ (a b : L), a.length % 2 = 0 → unitsN (a ++ b) = unitsN a ++ unitsN b
  | [], b, _ => rfl
  | [_], b, h => by simp at h
  | x :: y :: a, b, h => by
    simp only [List.cons_append, unitsN, unitsN_app a b (by simp at h; omega)]
theorem unitsN_tx (rs : List Nat) (h : ∀ c ∈ rs, scalar c) (u : Nat) (hu : u < 65536) : unitsN (tx rs u) = rs.flatMap unitsC ++ [u] := by
  unfold tx
  rw [unitsN_app _ _ (unitsR_even rs), unitsN_R rs h]
  have := unitB_unit u hu []
  rw [List.append_nil] at this
  rw [this]; rfl
theorem text16_tx (rs : List Nat) (h : ∀ c ∈ rs, scalar c) (u : Nat) (hu : u < 55296) : text16 (rs.flatMap unitsC ++ [u]) = some (encR (rs ++ [u])) := by
  have e : rs.flatMap unitsC ++ [u] = (rs ++ [u]).flatMap unitsC := by
    rw [List.flatMap_append]
    simp only [List.flatMap_cons, List.flatMap_nil, List.append_nil]
    unfold unitsC
    rw [if_neg (by omega)]
  rw [e]
  exact text16_R _ (by
    intro c hc
    simp only [List.mem_append, List.mem_singleton] at hc
    rcases hc with hc | rfl
    · exact h c hc
    · exact Or.inl hu)
theorem utfS_tx (rs : List Nat) (h : ∀ c ∈ rs, scalar c) (u : Nat) (hu : u < 55296) : utfS (tx rs u) = some (encR (rs ++ [u])) := by
  unfold utfS
  have he : (tx rs u).length % 2 = 0 := by
    have := unitsR_even rs
    unfold tx; rw [List.length_append, unitB_len]; omega
  rw [if_neg (by omega), unitsN_tx rs h u (by omega), text16_tx rs h u hu]
/-- The entries of the codes c + k, c + k + 1, .. -/
def entries (rs : List Nat) (last : Nat) (c : Int) (k n : Nat) : CM := (List.range' k n).map fun i => (c + (i : Nat), encR (rs ++ [last + i]))
theorem entries_succ (rs : List Nat) (last : Nat) (c : Int) (k n : Nat) : entries rs last c k (n + 1) = (c + (k : Nat), encR (rs ++ [last + k])) :: entries rs last c (k + 1) n := by
  simp [entries, List.range'_succ]
theorem riseC_ok (rs : List Nat) (h : ∀ c ∈ rs, scalar c) (last : Nat) (c : Int) : ∀ (n k : Nat) (σ : CS), σ.told + n ≤ 4096 → (∀ y ∈ σ.m, y.1 < c + (k : Nat)) → last + k + n ≤ 55296 →
    riseC (rs.flatMap unitsC) last c n k σ = .good ⟨σ.size, σ.told + n, σ.m ++ entries rs last c k n⟩
  | 0, k, σ, _, _, _ => by simp [riseC, entries]
  | n + 1, k, σ, ht, hm, hl => by
    rw [riseC, text16_tx rs h _ (by omega)]
    dsimp only
    unfold tellC
    rw [if_neg (by omega), insC_snoc _ _ _ hm]
    dsimp only
    rw [riseC_ok rs h last c n (k + 1) _ (by dsimp only; omega) (by
      intro y hy
      simp only [List.mem_append, List.mem_singleton] at hy
      rcases hy with hy | rfl
      · have := hm y hy; omega
      · dsimp only; omega) (by omega), entries_succ]
    simp
    omega
/-- A row for one code, a blank ahead of it. -/
def singleL (c : Nat) (t : L) : L := 32 :: (begW 1 ++ 32 :: (shownL [UInt8.ofNat c] ++ (shownL t ++ 32 :: endW 1)))
def singlesL (rs : List Nat) (last c : Nat) (k n : Nat) : L := (List.range' k n).flatMap fun i => singleL (c + i) (tx rs (last + i))
def rowText (rs : List Nat) (last c n : Nat) : L := begW 2 ++ 32 :: (shownL [UInt8.ofNat c] ++ (shownL [UInt8.ofNat (c + n)] ++ (shownL (tx rs last) ++ 32 :: endW 2)))
theorem codeC_one (σ : CS) (c : Nat) (h : c < 256) (hs : σ.size = 0 ∨ σ.size = 1) (n : Nat) (m : Int) : codeC σ ⟨3, n, m, [UInt8.ofNat c]⟩ = .good (⟨1, σ.told, σ.m⟩, c) :=
  codeC_B σ c false (by simp [mostC]; omega) (by simpa [sizeC] using hs) n m
theorem tx_len (rs : List Nat) (u : Nat) : (tx rs u).length ≤ 4 * rs.length + 2 := by
  have := unitsR_len rs
  unfold tx; rw [List.length_append, unitB_len]; omega
theorem partC_one (rs : List Nat) (h : ∀ c ∈ rs, scalar c) (hr : rs.length ≤ 8000) (u : Nat) (hu : u < 55296) (c : Nat) (hc : c < 256) (n : Nat) (σ : CS) (hs : σ.size = 0 ∨ σ.size = 1) (ht : σ.told < 4096) (hm : ∀ y ∈ σ.m, y.1 < (c : Int)) (X R : L)
    (hX : nextC (endW 1 ++ X) = .good (⟨5, (endW 1).length, 0, endW 1⟩, X)) (hR : R = 32 :: (shownL [UInt8.ofNat c] ++ (shownL (tx rs u) ++ 32 :: (endW 1 ++ X)))) :
    partC 1 (n + 2) R σ = .good (⟨1, σ.told + 1, σ.m ++ [((c : Int), encR (rs ++ [u]))]⟩, X) := by
  subst hR
  have hl := tx_len rs u
  rw [partC, nextS_good' ((nextC_skip _ (by decide)).trans (nextC_hex _ _ (by simp))) (by simp)]
  dsimp only
  rw [if_neg (by simp)]
  unfold rowC
  rw [if_pos rfl, codeC_one σ c hc hs]
  dsimp only
  rw [nextS_good' (nextC_hex _ _ (by omega)) (by simp)]
  dsimp only
  unfold textC
  simp only [if_true, utfS_tx rs h u hu]
  unfold tellC
  rw [if_neg (by dsimp only; omega), insC_snoc _ _ _ hm]
  dsimp only
  rw [partC, nextS_good' ((nextC_skip _ (by decide)).trans hX) (by simp)]
  simp [endW]
theorem singles_head (rs : List Nat) (last c k n : Nat) : singlesL rs last c k (n + 1) = singleL (c + k) (tx rs (last + k)) ++ singlesL rs last c (k + 1) n := by
  simp [singlesL, List.range'_succ]
theorem readF_singles (rs : List Nat) (h : ∀ c ∈ rs, scalar c) (hr : rs.length ≤ 8000) (last c : Nat) : ∀ (n k : Nat) (σ : CS) (fuel : Nat), c + k + n ≤ 256 → last + k + n ≤ 55296 → (σ.size = 0 ∧ σ.told = 0 ∨ σ.size = 1) → (n = 0 → σ.size = 1) → σ.told + n ≤ 4096 →
    (∀ y ∈ σ.m, y.1 < (c : Int) + (k : Nat)) → (singlesL rs last c k n).length < fuel →
    readF fuel (singlesL rs last c k n) σ = .good ⟨1, σ.told + n, σ.m ++ entries rs last c k n⟩
  | 0, k, σ, fuel, _, _, _, hs, _, _, hf => by
    obtain ⟨f, rfl⟩ : ∃ f, fuel = f + 1 := ⟨fuel - 1, by omega⟩
    have h1 := hs rfl
    have e : singlesL rs last c k 0 = [] := rfl
    rw [e, readF]
    simp [nextC, nextT, skipN, entries, ← h1]
  | n + 1, k, σ, fuel, hc, hl, hs, _, ht, hm, hf => by
    rw [singles_head] at hf ⊢
    have e : singleL (c + k) (tx rs (last + k)) ++ singlesL rs last c (k + 1) n = 32 :: (begW 1 ++ 32 :: (shownL [UInt8.ofNat (c + k)] ++ (shownL (tx rs (last + k)) ++ 32 :: (endW 1 ++ singlesL rs last c (k + 1) n)))) := by
      simp [singleL]
    rw [e] at hf ⊢
    obtain ⟨f, rfl⟩ : ∃ f, fuel = f + 1 := ⟨fuel - 1, by omega⟩
    have hX : nextC (endW 1 ++ singlesL rs last c (k + 1) n) = .good (⟨5, (endW 1).length, 0, endW 1⟩, singlesL rs last c (k + 1) n) := by
      cases n with
      | zero => rw [show singlesL rs last c (k + 1) 0 = [] from rfl, List.append_nil]; exact endW_last 1
      | succ n => rw [singles_head]; unfold singleL; exact endW_sp 1 _
    rw [readF, nextC_skip _ (by decide), begW_sp]
    dsimp only
    rw [if_neg (by decide), partOf_beg 1 (by decide)]
    dsimp only
    obtain ⟨g, hg⟩ := two_le (n := (32 :: (begW 1 ++ 32 :: (shownL [UInt8.ofNat (c + k)] ++ (shownL (tx rs (last + k)) ++ 32 :: (endW 1 ++ singlesL rs last c (k + 1) n))))).length) (by rw [List.length_cons]; omega)
    rw [hg, partC_one rs h hr (last + k) (by omega) (c + k) (by omega) g σ (by rcases hs with hs | hs <;> omega) (by omega) (fun y hy => by have := hm y hy; omega) _ _ hX rfl]
    dsimp only
    rw [readF_singles rs h hr last c n (k + 1) _ f (by omega) (by omega) (Or.inr rfl) (fun _ => rfl) (by dsimp only; omega) (by
      intro y hy
      simp only [List.mem_append, List.mem_singleton] at hy
      rcases hy with hy | rfl
      · have := hm y hy; omega
      · dsimp only; omega) (by simp at hf ⊢; omega), entries_succ]
    simp
    omega
theorem readC_singles (rs : List Nat) (h : ∀ c ∈ rs, scalar c) (hr : rs.length ≤ 8000) (last c n : Nat) (hc : c + n ≤ 255) (hl : last + n < 55296) :
    readC (singlesL rs last c 0 (n + 1)) = .good (entries rs last c 0 (n + 1), false) := by
  unfold readC
  rw [readF_singles rs h hr last c (n + 1) 0 ⟨0, 0, []⟩ _ (by omega) (by omega) (Or.inl ⟨rfl, rfl⟩) (by omega) (by dsimp only; omega) (by simp) (by omega)]
  simp
theorem readC_row (rs : List Nat) (h : ∀ c ∈ rs, scalar c) (hr : rs.length ≤ 8000) (last c n : Nat) (hc : c + n ≤ 255) (hl : last + n < 55296) :
    readC (rowText rs last c n) = .good (entries rs last c 0 (n + 1), false) := by
  have hx := tx_len rs last
  unfold readC
  obtain ⟨f, hf⟩ := two_le (n := (rowText rs last c n).length) (by simp [rowText, begW, beginN])
  rw [hf, readF, show nextC (rowText rs last c n) = _ from begW_sp 2 _]
  dsimp only
  rw [if_neg (by decide), partOf_beg 2 (by decide)]
  dsimp only
  rw [hf, partC, nextS_good' ((nextC_skip _ (by decide)).trans (nextC_hex _ _ (by simp))) (by simp)]
  dsimp only
  rw [if_neg (by simp)]
  unfold rowC
  rw [if_neg (by decide)]
  unfold spanC
  rw [codeC_one _ c (by omega) (Or.inl rfl)]
  dsimp only
  rw [nextS_good' (nextC_hex _ _ (by simp)) (by simp)]
  dsimp only
  rw [codeC_one _ (c + n) (by omega) (Or.inr rfl)]
  dsimp only
  rw [if_pos (by omega)]
  dsimp only
  rw [if_neg (by decide), nextS_good' (nextC_hex _ _ (by omega)) (by simp)]
  dsimp only
  rw [if_neg (by simp)]
  have hm : (((c + n : Nat) : Int) - (c : Int) + 1).toNat = n + 1 := by omega
  rw [hm]
  unfold risingC textC
  simp only [if_true, utfS_tx rs h last (by omega), unitsN_tx rs h last (by omega)]
  rw [if_neg (by simp), if_neg (by simp; omega)]
  have e1 : (rs.flatMap unitsC ++ [last]).dropLast = rs.flatMap unitsC := by simp
  have e2 : (rs.flatMap unitsC ++ [last]).getLastD 0 = last := by simp
  rw [e1, e2, riseC_ok rs h last c (n + 1) 0 _ (by simp; omega) (by simp) (by omega)]
  dsimp only
  cases f with
  | zero => simp [rowText, begW, beginN] at hf
  | succ f =>
    rw [partC, nextS_good' ((nextC_skip _ (by decide)).trans (endW_last 2)) (by simp)]
    dsimp only
    rw [if_pos ⟨rfl, rfl⟩]
    dsimp only
    rw [readF]
    simp [nextC, nextT, skipN]
end Fo
/- Plain Lean, no program: a mapping that is refused is refused with a reason. -/
namespace Fo
open Go.Lib

theorem nextS_ge {l : L} {k : Int} (h : nextS l = .bad k) : 2 ≤ k := by
  unfold nextS at h
  split at h
  · rename_i e he; cases h; exact (nextT_bad he).1
  · split at h
    · cases h; decide
    · cases h
theorem nextC_ge {l : L} {k : Int} (h : nextC l = .bad k) : 2 ≤ k := by
  unfold nextC at h
  split at h
  · rename_i e he; cases h; exact (nextT_bad he).1
  · cases h
theorem tellC_ge {σ : CS} {c : Int} {x : L} {k : Int} (h : tellC σ c x = .bad k) : 2 ≤ k := by
  unfold tellC at h
  split at h
  · cases h; decide
  · cases h
theorem codeC_ge {σ : CS} {t : Tok} {k : Int} (h : codeC σ t = .bad k) : 2 ≤ k := by
  unfold codeC at h
  split at h
  · cases h
  · cases h; decide
theorem textC_ge {t : Tok} {k : Int} (h : textC t = .bad k) : 2 ≤ k := by
  unfold textC at h
  split at h
  · split at h
    · cases h; decide
    · cases h
  · cases h; decide
theorem spanC_ge {σ : CS} {t : Tok} {l : L} {k : Int} (h : spanC σ t l = .bad k) : 2 ≤ k := by
  unfold spanC at h
  split at h
  · rename_i h1; cases h; exact codeC_ge h1
  split at h
  · rename_i h1; cases h; exact nextS_ge h1
  split at h
  · rename_i h1; cases h; exact codeC_ge h1
  split at h
  · cases h
  · cases h; decide
theorem riseC_ge {u : List Nat} {last : Nat} {c : Int} : ∀ {n j : Nat} {σ : CS} {k : Int}, riseC u last c n j σ = .bad k → 2 ≤ k
  | 0, j, σ, k, h => by cases h
  | n + 1, j, σ, k, h => by
    rw [riseC] at h
    split at h
    · cases h; decide
    split at h
    · rename_i h1; cases h; exact tellC_ge h1
    · exact riseC_ge h
theorem risingC_ge {σ : CS} {t : Tok} {c : Int} {n : Nat} {k : Int} (h : risingC σ t c n = .bad k) : 2 ≤ k := by
  unfold risingC at h
  split at h
  · rename_i h1; cases h; exact textC_ge h1
  split at h
  · cases h; decide
  split at h
  · cases h; decide
  · exact riseC_ge h
theorem sevC_ge : ∀ {n : Nat} {l : L} {acc : List L} {k : Int}, sevC n l acc = .bad k → l.length < n → 2 ≤ k
  | 0, l, acc, k, h, hn => by omega
  | n + 1, l, acc, k, h, hn => by
    rw [sevC] at h
    split at h
    · rename_i h1; cases h; exact nextS_ge h1
    rename_i t r h1
    have := (nextS_shorter h1).1
    split at h
    · cases h
    split at h
    · rename_i h2; cases h; exact textC_ge h2
    · exact sevC_ge h (by omega)
theorem tellAllC_ge : ∀ {xs : List L} {c : Int} {σ : CS} {k : Int}, tellAllC c xs σ = .bad k → 2 ≤ k
  | [], c, σ, k, h => by cases h
  | x :: xs, c, σ, k, h => by
    rw [tellAllC] at h
    split at h
    · rename_i h1; cases h; exact tellC_ge h1
    · exact tellAllC_ge h
theorem rowC_ge {p : Nat} {t : Tok} {l : L} {σ : CS} {k : Int} (h : rowC p t l σ = .bad k) : 2 ≤ k := by
  unfold rowC at h
  split at h
  · split at h
    · rename_i h1; cases h; exact codeC_ge h1
    split at h
    · rename_i h1; cases h; exact nextS_ge h1
    split at h
    · rename_i h1; cases h; exact textC_ge h1
    split at h
    · rename_i h1; cases h; exact tellC_ge h1
    · cases h
  · split at h
    · rename_i h1; cases h; exact spanC_ge h1
    split at h
    · cases h
    split at h
    · rename_i h1; cases h; exact nextS_ge h1
    split at h
    · split at h
      · rename_i h1; cases h; exact sevC_ge h1 (by omega)
      split at h
      · split at h
        · rename_i h1; cases h; exact tellAllC_ge h1
        · cases h
      · cases h; decide
    · split at h
      · rename_i h1; cases h; exact risingC_ge h1
      · cases h
theorem sevC_len' : ∀ {n : Nat} {l : L} {acc xs : List L} {l' : L}, sevC n l acc = .good (xs, l') → l'.length ≤ l.length
  | 0, l, acc, xs, l', h => by cases h
  | n + 1, l, acc, xs, l', h => by
    rw [sevC] at h
    split at h
    · cases h
    rename_i t r h1
    have := (nextS_shorter h1).1
    split at h
    · cases h; omega
    · split at h
      · cases h
      · have := sevC_len' h; omega
theorem spanC_len' {σ σ' : CS} {t : Tok} {x y : Int} {l l' : L} (h : spanC σ t l = .good (σ', x, y, l')) : l'.length ≤ l.length := by
  unfold spanC at h
  split at h
  · cases h
  split at h
  · cases h
  rename_i t2 r h2
  split at h
  · cases h
  split at h
  · cases h
    have := (nextS_shorter h2).1
    omega
  · cases h
theorem rowC_len' {p : Nat} {t : Tok} {l l' : L} {σ σ' : CS} (h : rowC p t l σ = .good (σ', l')) : l'.length ≤ l.length := by
  unfold rowC at h
  split at h
  · split at h
    · cases h
    split at h
    · cases h
    rename_i t2 r h2
    have := (nextS_shorter h2).1
    split at h
    · cases h
    split at h
    · cases h
    · cases h; omega
  · split at h
    · cases h
    rename_i σ1 a b r h1
    have k1 := spanC_len' h1
    split at h
    · cases h; omega
    split at h
    · cases h
    rename_i t2 r2 h2
    have := (nextS_shorter h2).1
    split at h
    · split at h
      · cases h
      rename_i xs r3 h3
      have := sevC_len' h3
      split at h
      · split at h
        · cases h
        · cases h; omega
      · cases h
    · split at h
      · cases h
      · cases h; omega
theorem partC_len' {p : Nat} : ∀ {n : Nat} {l l' : L} {σ σ' : CS}, partC p n l σ = .good (σ', l') → l'.length ≤ l.length
  | 0, l, l', σ, σ', h => by cases h
  | n + 1, l, l', σ, σ', h => by
    rw [partC] at h
    split at h
    · cases h
    rename_i t r h1
    have := (nextS_shorter h1).1
    split at h
    · cases h; omega
    split at h
    · cases h
    rename_i σ2 r2 h2
    have k1 := rowC_len' h2
    have k2 := partC_len' h
    omega
theorem partC_ge {p : Nat} : ∀ {n : Nat} {l : L} {σ : CS} {k : Int}, partC p n l σ = .bad k → l.length < n → 2 ≤ k
  | 0, l, σ, k, h, hn => by omega
  | n + 1, l, σ, k, h, hn => by
    rw [partC] at h
    split at h
    · rename_i h1; cases h; exact nextS_ge h1
    rename_i t r h1
    have := (nextS_shorter h1).1
    split at h
    · cases h
    split at h
    · rename_i h2; cases h; exact rowC_ge h2
    rename_i σ2 r2 h2
    have := rowC_len' h2
    exact partC_ge h (by omega)
theorem readF_ge : ∀ {n : Nat} {l : L} {σ : CS} {k : Int}, readF n l σ = .bad k → l.length < n → 2 ≤ k
  | 0, l, σ, k, h, hn => by omega
  | n + 1, l, σ, k, h, hn => by
    rw [readF] at h
    split at h
    · rename_i h1; cases h; exact nextC_ge h1
    rename_i t r h1
    split at h
    · cases h
    rename_i h0
    have hlt := (nextS_shorter (nextS_good' h1 h0)).1
    split at h
    · exact readF_ge h (by omega)
    split at h
    · rename_i h2; cases h; exact partC_ge h2 (by omega)
    rename_i σ2 r2 h2
    have := partC_len' h2
    exact readF_ge h (by omega)
theorem readC_ge {l : L} {k : Int} (h : readC l = .bad k) : 2 ≤ k := by
  unfold readC at h
  split at h
  · rename_i h1; cases h; exact readF_ge h1 (by omega)
  · cases h
end Fo
/- Plain Lean, no program: a mapping is written as pieces that are joined by line ends. -/
namespace Fo

def p1L : L := [49, 32, 98, 101, 103, 105, 110, 99, 111, 100, 101, 115, 112, 97, 99, 101, 114, 97, 110, 103, 101]
def p2L : L := [101, 110, 100, 99, 111, 100, 101, 115, 112, 97, 99, 101, 114, 97, 110, 103, 101]
def p3L : L := [32, 98, 101, 103, 105, 110, 98, 102, 99, 104, 97, 114]
def p4L : L := [101, 110, 100, 98, 102, 99, 104, 97, 114]
def p5L : L := [101, 110, 100, 99, 109, 97, 112]
def spaceP (wide : Bool) : L := shownL (codeB 0 wide) ++ [32] ++ shownL (codeB 65535 wide)
def headP (wide : Bool) : List L := [p1L, spaceP wide, p2L]
def rowP (wide : Bool) (x : Int × L) : L := shownL (codeB x.1.toNat wide) ++ [32] ++ shownL (unitsS x.2)
def chunkP (wide : Bool) (l : CM) : List L := (decL 5 l.length ++ p3L) :: (l.map (rowP wide) ++ [p4L])
/-- Where the chunks begin. -/
def startsF : Nat → Nat → Nat → List Nat
  | 0, _, _ => []
  | n + 1, i, N => if i < N then i :: startsF n (i + 100) N else []
def starts (N : Nat) : List Nat := startsF (N + 1) 0 N
def chunkOf (l : CM) (i : Nat) : CM := (l.drop i).take 100
def outP (wide : Bool) (l : CM) (pre : List Nat) : List L := headP wide ++ pre.flatMap fun i => chunkP wide (chunkOf l i)
def allP (wide : Bool) (l : CM) : List L := outP wide l (starts l.length) ++ [p5L, []]
theorem join_lines (ps : List L) : Go.Lib.join (ps ++ [[]]) [10] = ps.flatMap (· ++ [10]) := by
  cases ps with
  | nil => rfl
  | cons x r =>
    rw [List.cons_append, Go.Lib.join_cons, List.flatMap_cons, List.append_assoc]
    congr 1
    induction r with
    | nil => rfl
    | cons y r ih =>
      have e : Go.Lib.joinTail [10] (y :: r ++ [[]]) = [10] ++ y ++ Go.Lib.joinTail [10] (r ++ [[]]) := by simp [Go.Lib.joinTail]
      rw [e, ih, List.flatMap_cons]
      simp
theorem head_lines (wide : Bool) : (headP wide).flatMap (· ++ [10]) = headL wide := by
  simp [headP, headL, spaceP, p1L, p2L]
theorem chunk_lines (wide : Bool) (l : CM) : (chunkP wide l).flatMap (· ++ [10]) = chunkL wide l := by
  have h : ∀ l : CM, (l.map (rowP wide)).flatMap (· ++ [10]) = l.flatMap (rowL wide) := by
    intro l
    induction l with
    | nil => rfl
    | cons x l ih => rw [List.map_cons, List.flatMap_cons, List.flatMap_cons, ih]; simp [rowP, rowL]
  unfold chunkP chunkL
  rw [List.flatMap_cons, List.flatMap_append, h]
  simp [p3L, p4L]
theorem starts_lines (wide : Bool) (l : CM) : ∀ (n i : Nat), (startsF n i l.length).flatMap (fun i => (chunkP wide (chunkOf l i)).flatMap (· ++ [10])) = chunksL wide n (l.drop i)
  | 0, _ => rfl
  | n + 1, i => by
    rw [startsF, chunksL]
    by_cases h : i < l.length
    · rw [if_pos h, if_neg (by rw [List.drop_eq_nil_iff]; omega), List.flatMap_cons, starts_lines wide l n (i + 100), chunk_lines, List.drop_drop]
      rfl
    · rw [if_neg h, if_pos (by rw [List.drop_eq_nil_iff]; omega)]
      rfl
theorem all_body (l : CM) (wide : Bool) : Go.Lib.join (allP wide l) [10] = bodyC l wide := by
  have e : allP wide l = (outP wide l (starts l.length) ++ [p5L]) ++ [[]] := by simp [allP]
  rw [e, join_lines, List.flatMap_append]
  unfold outP bodyC
  rw [List.flatMap_append, head_lines, List.flatMap_assoc]
  unfold starts
  rw [starts_lines, List.drop_zero]
  simp [p5L]
theorem startsF_len : ∀ (n i N : Nat), (startsF n i N).length ≤ n
  | 0, _, _ => by simp [startsF]
  | n + 1, i, N => by
    rw [startsF]; split
    · have := startsF_len n (i + 100) N; simp; omega
    · simp
/-- The starts from i on, at fuel enough. -/
theorem startsF_more : ∀ (n m i N : Nat), N ≤ i + n → N ≤ i + m → startsF n i N = startsF m i N
  | 0, m, i, N, h, _ => by
    cases m with
    | zero => rfl
    | succ m => rw [startsF, startsF, if_neg (by omega)]
  | n + 1, 0, i, N, _, h => by rw [startsF, startsF, if_neg (by omega)]
  | n + 1, m + 1, i, N, h1, h2 => by
    rw [startsF, startsF, startsF_more n m (i + 100) N (by omega) (by omega)]
def startsAt (i N : Nat) : List Nat := startsF (N + 1) i N
theorem startsAt_step {i N : Nat} (h : i < N) : startsAt i N = i :: startsAt (i + 100) N := by
  unfold startsAt
  rw [startsF, if_pos h, startsF_more N (N + 1) (i + 100) N (by omega) (by omega)]
theorem startsAt_end {i N : Nat} (h : N ≤ i) : startsAt i N = [] := by
  unfold startsAt; rw [startsF, if_neg (by omega)]
/-- The lengths of what is written: at most this much. -/
theorem chunkP_len (wide : Bool) (l : CM) : (chunkP wide l).length = l.length + 2 := by simp [chunkP]
theorem outP_snoc (wide : Bool) (l : CM) (pre : List Nat) (x : Nat) : outP wide l (pre ++ [x]) = outP wide l pre ++ chunkP wide (chunkOf l x) := by
  unfold outP; rw [List.flatMap_append]; simp
theorem outP_len (wide : Bool) (l : CM) (pre : List Nat) : (outP wide l pre).length ≤ 3 + 102 * pre.length := by
  have h : ∀ pre : List Nat, (pre.flatMap fun i => chunkP wide (chunkOf l i)).length ≤ 102 * pre.length := by
    intro pre
    induction pre with
    | nil => simp
    | cons x pre ih =>
      rw [List.flatMap_cons, List.length_append, chunkP_len, List.length_cons]
      have : (chunkOf l x).length ≤ 100 := by unfold chunkOf; rw [List.length_take]; omega
      omega
  have := h pre
  unfold outP
  rw [List.length_append]
  simp only [headP, List.length_cons, List.length_nil]
  omega
theorem flat_len (ps : List L) (n : Nat) (h : ∀ q ∈ ps, q.length ≤ n) : (ps.flatMap (· ++ [10])).length ≤ ps.length * (n + 1) := by
  induction ps with
  | nil => simp
  | cons q ps ih =>
    have h1 := h q (by simp)
    have h2 := ih fun r hr => h r (by simp [hr])
    rw [List.flatMap_cons, List.length_append, List.length_cons, Nat.add_mul, Nat.one_mul]
    simp only [List.length_append, List.length_cons, List.length_nil]
    omega
theorem shown_len (x : L) : (shownL x).length = 2 * x.length + 2 := by unfold shownL; simp [hexL_len]
theorem body_len (m : CM) (wide : Bool) (hm : m.length ≤ 4096) (h : ∀ x ∈ m, (unitsS x.2).length ≤ 512) : (bodyC m wide).length ≤ 3000000000 := by
  rw [← all_body]
  have e : allP wide m = (outP wide m (starts m.length) ++ [p5L]) ++ [[]] := by simp [allP]
  rw [e, join_lines]
  have hc : ∀ c, (codeB c wide).length ≤ 2 := fun c => by rw [codeB_len]; cases wide <;> simp [sizeC]
  refine Nat.le_trans (flat_len _ 2000 ?_) ?_
  · intro q hq
    simp only [outP, headP, chunkP, List.mem_append, List.mem_cons, List.mem_flatMap, List.mem_map, List.not_mem_nil, or_false] at hq
    rcases hq with ((rfl | rfl | rfl) | ⟨i, _, rfl | ⟨x, hx, rfl⟩ | rfl⟩) | rfl
    · decide
    · have h0 := hc 0
      have h1 := hc 65535
      simp only [spaceP, List.length_append, List.length_cons, List.length_nil, shown_len]
      omega
    · decide
    · have : ∀ (n k : Nat), (decL n k).length ≤ n := by
        intro n
        induction n with
        | zero => intro k; simp [decL]
        | succ n ih =>
          intro k
          rw [decL]; split
          · simp
          · have := ih (k / 10); simp; omega
      have := this 5 (chunkOf m i).length
      simp [p3L]
      omega
    · have hx1 : x ∈ m := by unfold chunkOf at hx; exact List.mem_of_mem_drop (List.mem_of_mem_take hx)
      have h0 := hc x.1.toNat
      have h1 := h x hx1
      simp only [rowP, List.length_append, List.length_cons, List.length_nil, shown_len]
      omega
    · decide
    · decide
  · have h1 := outP_len wide m (starts m.length)
    have h2 := startsF_len (m.length + 1) 0 m.length
    unfold starts at h1 ⊢
    rw [List.length_append]
    simp only [List.length_cons, List.length_nil]
    omega
end Fo
