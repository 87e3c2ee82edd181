/- The walks of plain numbers, strings and names. -/
import Derived.Test.YtfgdhcemidlnfaaGreatDoorGLib
import Derived.Test.YtfgdhcemidlnfaaGreatDoorGPlB
import Derived.Lib.AppendIntMem
import Derived.Test.YtfgdhcemidlnfaaGreatDoorGPlA
import Derived.Lib.TrimUEq
import Derived.Lib.ValidU
import Derived.Lib.RuneBytes
import Derived.Deep.AppendLies
import Derived.OwnWalk
import Derived.IntWalk
import Derived.Laws.BitsLemmas
import Derived.Test.YtfgdhcemidlnfaaGreatDoorGChk
import Derived.Test.YtfgdhcemidlnfaaGreatDoorGVaA
set_option linter.all false
/- The walks of plain: integers, padded numbers. -/
namespace Go.Proofs.YtfgdhcemidlnfaaGreatDoor
open Go.RowKit Fo

/-- The library's table of powers of ten lies as it is laid. -/
def TabP (w : World) : Prop := Lib.TabIs Tryz.prog w "internal/strconv.uint64pow10" .u64 Lib.pow10Tab
theorem TabP.below {w w' : World} (h : TabP w) (hb : Below w.heap.size w w') : TabP w' := Lib.tabBelow_of_tabIs h w' hb
theorem below_grow (w : World) (k : Nat) (os : Array Obj) : Below w.heap.size w (Go.«Sort».grow (w.drewN k) os) :=
  ⟨rfl, rfl, rfl, by simp [Go.«Sort».grow], fun b hb => by
    show (w.heap ++ os)[b]? = w.heap[b]?
    rw [Array.getElem?_append_left hb]⟩
theorem dec_dig (n : Nat) : Lib.decDigits n = digU n := by
  induction n using Nat.strongRecOn with
  | _ n ih =>
    unfold Lib.decDigits digU
    by_cases h : n < 10
    · rw [dif_pos h, if_pos h]
    · rw [dif_neg h, if_neg h, ih (n / 10) (by omega)]
theorem itoa_dig (n : Int) : Lib.itoa n = digI n := by
  unfold Lib.itoa digI
  by_cases h : n < 0
  · rw [if_pos h, if_pos h, dec_dig]
  · rw [if_neg h, if_neg h, dec_dig, show n.toNat = n.natAbs by omega]
def intV (n : Int) : Value := if n < -2147483647 ∨ 2147483647 < n then .tuple #[.string ⟨#[]⟩, .int .i64 2] else .tuple #[.string ⟨(digI n).toArray⟩, .int .i64 0]
set_option maxHeartbeats 400000 in
theorem pInt_in (n : Int) (h0 : -9223372036854775808 ≤ n) (h1 : n ≤ 9223372036854775807) (w : World) (hT : TabP w) :
    Calls Tryz.prog 91 #[.int .i64 n] w fun e w' => e = .returned (intV n) ∧ Below w.heap.size w w' := by
  have HF := Lib.hid (fun W (hW : TabP W) => Tryz.strconv_FormatInt_10 n h0 h1 W hW)
  rw [itoa_dig] at HF
  by_cases h2 : n < -2147483647
  · have d0 : decide (n < -2147483647) = true := decide_eq_true h2
    have HV := Lib.hid (show intV n = .tuple #[.string ⟨#[]⟩, .int .i64 2] by unfold intV; rw [if_pos (.inl h2)])
    clear h2
    go_enter Tryz.func91, Tryz.ntmps91
    go_wp2
    go_ret2
    exact ⟨by rw [HV.out]; rfl, Below.refl _ _⟩
  · have d0 : decide (n < -2147483647) = false := decide_eq_false h2
    by_cases h3 : 2147483647 < n
    · have d1 : decide (2147483647 < n) = true := decide_eq_true h3
      have HV := Lib.hid (show intV n = .tuple #[.string ⟨#[]⟩, .int .i64 2] by unfold intV; rw [if_pos (.inr h3)])
      clear h2 h3
      go_enter Tryz.func91, Tryz.ntmps91
      go_wp2
      go_ret2
      exact ⟨by rw [HV.out]; rfl, Below.refl _ _⟩
    · have d1 : decide (2147483647 < n) = false := decide_eq_false h3
      have HV := Lib.hid (show intV n = .tuple #[.string ⟨(digI n).toArray⟩, .int .i64 0] by unfold intV; rw [if_neg (by omega)])
      clear h2 h3
      go_enter Tryz.func91, Tryz.ntmps91
      go_wp2_with fail
      refine (HF.out _ hT).mono ?_
      rintro e w1 ⟨rfl, k, os, rfl⟩
      go_wp2
      go_ret2
      exact ⟨by rw [HV.out]; rfl, below_grow _ _ _⟩
set_option maxHeartbeats 1000000 in
theorem pad_in (n k : Nat) (hn : n ≤ 2147483647) (hk1 : 1 ≤ k) (hk : k ≤ 20) (hd : (digU n).length ≤ k) (w : World) (hT : TabP w) :
    Calls Tryz.prog 92 #[.int .i64 n, .int .i64 k] w fun e w' => e = .returned (.string ⟨(padW k n).toArray⟩) ∧ Below w.heap.size w w' := by
  have HF := Lib.hid (fun W (hW : TabP W) => Tryz.strconv_Itoa (n : Int) (by omega) (by omega) W hW)
  rw [itoa_dig, show digI (n : Int) = digU n by unfold digI; rw [if_neg (by omega)]; rfl] at HF
  obtain ⟨D, hD⟩ : ∃ D, digU n = D := ⟨_, rfl⟩
  rw [hD] at HF hd
  have HR := Lib.hid (fun W => Tryz.strings_Repeat ⟨#[48]⟩ (k - D.length) W (by omega) (by show 1 * _ ≤ _; omega))
  have HP := Lib.hid (show padW k n = List.replicate (k - D.length) 48 ++ D by unfold padW; rw [hD])
  have d0 : decide ((n : Int) < 0) = false := by simp
  have d1 : decide ((k : Int) < 1) = false := by simp; omega
  have d2 : decide ((20 : Int) < (k : Int)) = false := by simp; omega
  have d3 : decide (k < D.length) = false := by simp; omega
  have hs : (k : Int) - (D.length : Int) = ((k - D.length : Nat) : Int) := by omega
  have hl : Lib.repeatL [48] (k - D.length) = List.replicate (k - D.length) 48 := by
    generalize k - D.length = m
    induction m with
    | zero => rfl
    | succ m ih => rw [Lib.repeatL, ih]; rfl
  rw [show (⟨#[48]⟩ : ByteArray).data.toList = [48] from rfl, hl] at HR
  obtain ⟨m, hm⟩ : ∃ m, k - D.length = m := ⟨_, rfl⟩
  rw [hm] at HR HP hs
  have hm2 : m ≤ 20 := by omega
  have hlr : (List.replicate m (48 : UInt8)).length = m := List.length_replicate
  obtain ⟨Z, hZ⟩ : ∃ Z : L, List.replicate m (48 : UInt8) = Z := ⟨_, rfl⟩
  rw [hZ] at HR HP hlr
  have g1 : ¬ 9223372036854775807 < Z.length + D.length := by omega
  clear hl hm hZ hD
  go_enter Tryz.func92, Tryz.ntmps92
  go_wp2_with fail
  refine (HF.out _ hT).mono ?_
  rintro e w1 ⟨rfl, k1, os, rfl⟩
  have hb1 := below_grow w k1 os
  obtain ⟨w1, hw1⟩ : ∃ w1, Go.«Sort».grow (w.drewN k1) os = w1 := ⟨_, rfl⟩
  rw [hw1] at hb1 ⊢
  clear hw1
  go_wp2_with fail
  refine (HR.out _).mono ?_
  rintro e w2 ⟨rfl, hb2⟩
  go_wp2
  go_ret
  exact ⟨by rw [HP.out]; simp [ByteArray.mk_append_mk], hb1.trans (hb2.mono hb1.size)⟩
end Go.Proofs.YtfgdhcemidlnfaaGreatDoor
/- Plain Lean, no program: what the layer of character code mappings computes, said on lists of bytes. -/
namespace Fo

/-- The 16-bit units of bytes; a last odd byte falls away. -/
def unitsN : L → List Nat
  | a :: b :: l => (256 * a.toNat + b.toNat) :: unitsN l
  | _ => []
/-- The characters of units; the flag is false at the end where a surrogate is unpaired. -/
def signsL : List Nat → List (Nat × Bool)
  | [] => []
  | u :: l =>
    if 55296 ≤ u ∧ u < 57344 then
      match l with
      | [] => [(0, false)]
      | v :: l' => if 56320 ≤ u ∨ v < 56320 ∨ 57344 ≤ v then [(0, false)] else (65536 + (u - 55296) * 1024 + (v - 56320), true) :: signsL l'
    else (u, true) :: signsL l
def textOf (l : List (Nat × Bool)) : L := l.flatMap fun x => Go.Lib.encodeRune x.1
def text16 (l : List Nat) : Option L := if (signsL l).all (·.2) then some (textOf (signsL l)) else none
def utfS (s : L) : Option L := if s.length % 2 = 1 then none else text16 (unitsN s)

/-- The code points of a string, broken bytes as U+FFFD. -/
def runesF : Nat → L → List Nat
  | 0, _ => []
  | n + 1, l => if l = [] then [] else (Go.Lib.decodeL l).1 :: runesF n (l.drop (Go.Lib.decodeL l).2)
def runesS (l : L) : List Nat := runesF l.length l
def unitB (n : Nat) : L := [UInt8.ofNat (n / 256), UInt8.ofNat n]
def unitsOf (c : Nat) : L := if 65536 ≤ c then unitB (55296 + (c - 65536) / 1024) ++ unitB (56320 + (c - 65536) % 1024) else unitB c
def unitsR (l : List Nat) : L := l.flatMap unitsOf
def unitsS (s : L) : L := unitsR (runesS s)

def beV (l : L) : Nat := l.foldl (fun v c => 256 * v + c.toNat) 0
abbrev CM := List (Int × L)
/-- The first text of a code stays. -/
def insC : CM → Int → L → CM
  | [], c, s => [(c, s)]
  | (d, t) :: m, c, s => if c < d then (c, s) :: (d, t) :: m else if c = d then (d, t) :: m else (d, t) :: insC m c s
structure CS where
  size : Nat
  told : Nat
  m : CM

/-- The next token, the end too, and what lies behind it. -/
def nextC (l : L) : Res (Tok × L) :=
  match (nextT l).2 with
  | .bad k => .bad k
  | .good t => .good (t, l.drop ((nextT l).1 + t.len))
def tellC (σ : CS) (c : Int) (s : L) : Res CS := if 4096 ≤ σ.told then .bad 6 else .good ⟨σ.size, σ.told + 1, insC σ.m c s⟩
def codeC (σ : CS) (t : Tok) : Res (CS × Int) :=
  if t.kind = 3 ∧ (t.s.length = 1 ∨ t.s.length = 2) ∧ (σ.size = 0 ∨ σ.size = t.s.length) then .good (⟨t.s.length, σ.told, σ.m⟩, (beV t.s : Nat)) else .bad 3
def spanC (σ : CS) (t : Tok) (l : L) : Res (CS × Int × Int × L) :=
  match codeC σ t with
  | .bad k => .bad k
  | .good (σ1, a) =>
    match nextS l with
    | .bad k => .bad k
    | .good (t2, r) =>
      match codeC σ1 t2 with
      | .bad k => .bad k
      | .good (σ2, b) => if a ≤ b then .good (σ2, a, b, r) else .bad 3
def textC (t : Tok) : Res L :=
  if t.kind = 3 then (match utfS t.s with | none => .bad 3 | some x => .good x) else .bad 3
/-- The rest of a row whose last unit rises: ahead of it u, the last unit itself. -/
def riseC (u : List Nat) (last : Nat) (c : Int) : Nat → Nat → CS → Res CS
  | 0, _, σ => .good σ
  | n + 1, k, σ =>
    match text16 (u ++ [last + k]) with
    | none => .bad 2
    | some x =>
      match tellC σ (c + k) x with
      | .bad e => .bad e
      | .good σ' => riseC u last c n (k + 1) σ'
def risingC (σ : CS) (t : Tok) (c : Int) (many : Nat) : Res CS :=
  match textC t with
  | .bad e => .bad e
  | .good _ =>
    if unitsN t.s = [] then .bad 3
    else if 65535 < (unitsN t.s).getLastD 0 + many - 1 then .bad 2
    else riseC (unitsN t.s).dropLast ((unitsN t.s).getLastD 0) c many 0 σ
/-- The texts up to the closing bracket. -/
def sevC : Nat → L → List L → Res (List L × L)
  | 0, _, _ => .bad 0
  | n + 1, l, acc =>
    match nextS l with
    | .bad k => .bad k
    | .good (t, r) =>
      if t.kind = 6 ∧ t.s = [93] then .good (acc, r)
      else match textC t with
        | .bad k => .bad k
        | .good x => sevC n r (acc ++ [x])
def tellAllC : Int → List L → CS → Res CS
  | _, [], σ => .good σ
  | c, x :: l, σ =>
    match tellC σ c x with
    | .bad e => .bad e
    | .good σ' => tellAllC (c + 1) l σ'
/-- The three kinds of sections: their names. -/
def partN : Nat → L
  | 0 => [99, 111, 100, 101, 115, 112, 97, 99, 101, 114, 97, 110, 103, 101]
  | 1 => [98, 102, 99, 104, 97, 114]
  | _ => [98, 102, 114, 97, 110, 103, 101]
def beginN : L := [98, 101, 103, 105, 110]
def endN : L := [101, 110, 100]
def rowC (p : Nat) (t : Tok) (l : L) (σ : CS) : Res (CS × L) :=
  if p = 1 then
    match codeC σ t with
    | .bad k => .bad k
    | .good (σ1, c) =>
      match nextS l with
      | .bad k => .bad k
      | .good (t2, r) =>
        match textC t2 with
        | .bad k => .bad k
        | .good x =>
          match tellC σ1 c x with
          | .bad k => .bad k
          | .good σ2 => .good (σ2, r)
  else
    match spanC σ t l with
    | .bad k => .bad k
    | .good (σ1, a, b, r) =>
      if p = 0 then .good (σ1, r)
      else
        match nextS r with
        | .bad k => .bad k
        | .good (t2, r2) =>
          if t2.kind = 6 ∧ t2.s = [91] then
            match sevC (r2.length + 1) r2 [] with
            | .bad k => .bad k
            | .good (xs, r3) =>
              if (xs.length : Int) = b - a + 1 then
                match tellAllC a xs σ1 with
                | .bad k => .bad k
                | .good σ2 => .good (σ2, r3)
              else .bad 3
          else
            match risingC σ1 t2 a (b - a + 1).toNat with
            | .bad k => .bad k
            | .good σ2 => .good (σ2, r2)
def partC (p : Nat) : Nat → L → CS → Res (CS × L)
  | 0, _, _ => .bad 0
  | n + 1, l, σ =>
    match nextS l with
    | .bad k => .bad k
    | .good (t, r) =>
      if t.kind = 5 ∧ t.s = endN ++ partN p then .good (σ, r)
      else match rowC p t r σ with
        | .bad k => .bad k
        | .good (σ', r') => partC p n r' σ'
def partOf (t : Tok) : Option Nat :=
  if t.kind = 5 then (if t.s = beginN ++ partN 0 then some 0 else if t.s = beginN ++ partN 1 then some 1 else if t.s = beginN ++ partN 2 then some 2 else none) else none
def readF : Nat → L → CS → Res CS
  | 0, _, _ => .bad 0
  | n + 1, l, σ =>
    match nextC l with
    | .bad k => .bad k
    | .good (t, r) =>
      if t.kind = 0 then .good σ
      else match partOf t with
        | none => readF n r σ
        | some p =>
          match partC p (l.length + 1) r σ with
          | .bad k => .bad k
          | .good (σ', r') => readF n r' σ'
def readC (l : L) : Res (CM × Bool) :=
  match readF (l.length + 1) l ⟨0, 0, []⟩ with
  | .bad k => .bad k
  | .good σ => .good (σ.m, σ.size == 2)

def underC (p : Option Int) (c : Int) : Bool := match p with | some q => decide (c < q) | none => false
/-- The first reason why a mapping cannot be written. -/
def checkGo (most : Int) : Option Int → CM → Int
  | _, [] => 0
  | p, (c, s) :: l =>
    if c < 0 ∨ most < c then 2
    else if Go.Lib.validD s = false then 3
    else if 512 < (unitsS s).length then 5
    else if p = some c then 9
    else if underC p c then 1
    else checkGo most (some c) l
def mostC (wide : Bool) : Int := if wide then 65535 else 255
def checkC (l : CM) (wide : Bool) : Int := if 4096 < l.length then 6 else checkGo (mostC wide) none l

def chexD (n : Nat) : UInt8 := if n < 10 then UInt8.ofNat (48 + n) else UInt8.ofNat (55 + n)
def hexL (l : L) : L := l.flatMap fun c => [chexD (c.toNat / 16), chexD (c.toNat % 16)]
def shownL (l : L) : L := 60 :: hexL l ++ [62]
def codeB (c : Nat) (wide : Bool) : L := if wide then unitB c else [UInt8.ofNat c]
def decL : Nat → Nat → L
  | 0, _ => []
  | n + 1, k => if k < 10 then [UInt8.ofNat (48 + k)] else decL n (k / 10) ++ [UInt8.ofNat (48 + k % 10)]
def rowL (wide : Bool) (x : Int × L) : L := shownL (codeB x.1.toNat wide) ++ [32] ++ shownL (unitsS x.2) ++ [10]
def chunkL (wide : Bool) (l : CM) : L :=
  decL 5 l.length ++ [32, 98, 101, 103, 105, 110, 98, 102, 99, 104, 97, 114, 10] ++ l.flatMap (rowL wide) ++ [101, 110, 100, 98, 102, 99, 104, 97, 114, 10]
def chunksL (wide : Bool) : Nat → CM → L
  | 0, _ => []
  | n + 1, l => if l = [] then [] else chunkL wide (l.take 100) ++ chunksL wide n (l.drop 100)
def headL (wide : Bool) : L :=
  [49, 32, 98, 101, 103, 105, 110, 99, 111, 100, 101, 115, 112, 97, 99, 101, 114, 97, 110, 103, 101, 10] ++ shownL (codeB 0 wide) ++ [32] ++ shownL (codeB 65535 wide) ++
  [10, 101, 110, 100, 99, 111, 100, 101, 115, 112, 97, 99, 101, 114, 97, 110, 103, 101, 10]
def bodyC (l : CM) (wide : Bool) : L := headL wide ++ chunksL wide (l.length + 1) l ++ [101, 110, 100, 99, 109, 97, 112, 10]
def writeC (l : CM) (wide : Bool) : Res L := if checkC l wide = 0 then .good (bodyC l wide) else .bad (checkC l wide)
def findC (l : CM) (c : Int) : Option L := (l.find? fun x => x.1 == c).map (·.2)
end Fo
/- The walks of the two Hex, of units and of digits: each returns what the plain text says. -/
namespace Go.Proofs.YtfgdhcemidlnfaaGreatDoor
open Go.RowKit Fo

theorem Tryz.infoI32 : (Tryz.prog.info? 21).map (fun i => (i.zero, i.size, i.bytes)) = some (some (.int .i32 0), 1, 4) := by kernel_rfl
theorem wraps_u16 (n : Int) (h₀ : 0 ≤ n) (h₁ : n < 2 ^ 16) : IntKind.u16.wrap n = n := by
  have : IntKind.u16.wrap n = n % 65536 := by simp [IntKind.wrap, IntKind.bits, IntKind.signed]
  rw [this]; omega
theorem u16_or8 {x y : Int} (hx₀ : 0 ≤ x) (hx : x % 256 = 0) (hx₁ : x < 65536) (h₀ : 0 ≤ y) (h₁ : y < 256) : bits .or .u16 x y = x + y :=
  bits_join .u16 16 (by decide) wraps_u16 8 x y hx₀ hx hx₁ h₀ h₁ (by omega)
theorem unitsN_len : ∀ (l : L), 2 * (unitsN l).length ≤ l.length
  | [] => by simp [unitsN]
  | [_] => by simp [unitsN]
  | a :: b :: l => by have := unitsN_len l; simp [unitsN]; omega
theorem unitsN_most : ∀ (l : L) (k : Nat), k % 2 = 0 → l.length ≤ k + 1 → unitsN (l.take k) = unitsN l
  | [], k, _, _ => by simp
  | [a], 0, _, _ => rfl
  | [a], k + 1, h, _ => by simp
  | a :: b :: l, 0, _, h => by simp at h
  | a :: b :: l, 1, h, _ => by omega
  | a :: b :: l, k + 2, h, hl => by simp only [List.take_succ_cons, unitsN, unitsN_most l k (by omega) (by simp at hl; omega)]
theorem unitsN_snoc : ∀ (l : L) (a b : UInt8), l.length % 2 = 0 → unitsN (l ++ [a, b]) = unitsN l ++ [256 * a.toNat + b.toNat]
  | [], _, _, _ => rfl
  | [_], _, _, h => by simp at h
  | x :: y :: l, a, b, h => by
    simp only [List.cons_append, unitsN, unitsN_snoc l a b (by simp at h; omega)]
theorem take_two (s : ByteArray) (k : Nat) (h : k + 1 < s.size) : s.data.toList.take (k + 2) = s.data.toList.take k ++ [s[k], s[k + 1]] := by
  rw [show k + 2 = (k + 1) + 1 from rfl, List.take_succ_eq_append_getElem (by simpa using h), List.take_succ_eq_append_getElem (by have : s.data.size = s.size := rfl; simp; omega)]
  simp; exact ⟨rfl, rfl⟩
abbrev chexLit : ByteArray := ⟨#[48, 49, 50, 51, 52, 53, 54, 55, 56, 57, 65, 66, 67, 68, 69, 70]⟩
theorem chexLit_at (n : Nat) (h : n < 16) : chexLit[n]'(by show n < 16; omega) = chexD n := by
  have h2 : n = 0 ∨ n = 1 ∨ n = 2 ∨ n = 3 ∨ n = 4 ∨ n = 5 ∨ n = 6 ∨ n = 7 ∨ n = 8 ∨ n = 9 ∨ n = 10 ∨ n = 11 ∨ n = 12 ∨ n = 13 ∨ n = 14 ∨ n = 15 := by omega
  rcases h2 with rfl | rfl | rfl | rfl | rfl | rfl | rfl | rfl | rfl | rfl | rfl | rfl | rfl | rfl | rfl | rfl <;> rfl
theorem hexL_snoc (l : L) (c : UInt8) : hexL (l ++ [c]) = hexL l ++ [chexD (c.toNat / 16), chexD (c.toNat % 16)] := by
  simp [hexL]
theorem hexL_len' (x : L) : (hexL x).length = 2 * x.length := by
  induction x with
  | nil => rfl
  | cons c x ih =>
    have e : hexL (c :: x) = chexD (c.toNat / 16) :: chexD (c.toNat % 16) :: hexL x := rfl
    rw [e]; simp [ih]; omega
theorem take_one (s : ByteArray) (k : Nat) (h : k < s.size) : s.data.toList.take (k + 1) = s.data.toList.take k ++ [s[k]] := by
  rw [List.take_succ_eq_append_getElem (by simpa using h)]; rfl
set_option maxRecDepth 100000 in
set_option maxHeartbeats 1000000 in
theorem chex_in (s : ByteArray) (hs : s.size ≤ 70000000000000) (w : World) :
    Calls Tryz.prog 219 #[.string s] w fun e w' => e = .returned (.string ⟨(hexL s.data.toList).toArray⟩) ∧ Below w.heap.size w w' := by
  have q0 : IntKind.i64.wrap (2 * (s.size : Int)) = 2 * (s.size : Int) := IntWalk.i64_in _ (by omega)
  obtain ⟨i0, hi0, y0, y1, y2⟩ := info_parts Tryz.infoU8
  go_enter Tryz.func219, Tryz.ntmps219
  go_wp2_with (at_make; refine wpList_make_own _ rfl _ _ 98 rfl w.heap.size 5 i0 (.int .u8 0) 1 Tryz.underlying98 hi0 y0 y1 .i64 .i64 (2 * (s.size : Int)) (2 * s.size) rfl rfl (by omega) (by rw [y2]; omega) (by unfold maxLen; omega) (by simp) ?_; intro w1 hown1 hgrow1)
  have hb1 : Below w.heap.size w w1 := (Below.refl _ _).grown hgrow1 (Nat.le_refl _) (fun k hk => by cases hk)
  clear hgrow1 i0 hi0 y0 y1 y2 q0
  go_loopw [3, 11] (fun v i wr => ∃ k : Nat, k ≤ s.size ∧ i = .int .i64 k ∧ Below w.heap.size w wr ∧ ownB wr w.heap.size v (hexL (s.data.toList.take k))) (fun _ i _ => s.size - (intOf i).toNat)
  case atStart => exact ⟨0, by omega, rfl, hb1, hown1⟩
  case round =>
    clear hb1 hown1
    obtain ⟨k, hk, rfl, hb, hown⟩ := hrel
    by_cases hlt : k < s.size
    · skip
      have hBr := hb.size
      obtain ⟨xs, hxs⟩ : ∃ xs, hexL (s.data.toList.take k) = xs := ⟨_, rfl⟩
      have hxl : xs.length = 2 * k := by rw [← hxs, hexL_len']; have h2 : s.data.size = s.size := rfl; simp; omega
      have HT := Lib.hid (take_one s k hlt)
      have HU := Lib.hid hxs
      rw [hxs] at hown
      clear hxs
      obtain ⟨p, c, rfl⟩ := ownB_slice hown
      obtain ⟨a, ha⟩ : ∃ a, s[k] = a := ⟨_, rfl⟩
      have hb1 := UInt8.toNat_lt a
      obtain ⟨i0, hi0, y0, y1, y2⟩ := info_parts Tryz.infoU8
      have v1 : a.toNat / 16 < 16 := by omega
      have v2 : a.toNat % 16 < 16 := by omega
      have v3 : (a.toNat : Int) / 16 < 16 := by omega
      have v4 : (a.toNat : Int) % 16 < 16 := by omega
      have v5 : (0 : Int) ≤ (a.toNat : Int) / 16 := by omega
      have v6 : (0 : Int) ≤ (a.toNat : Int) % 16 := by omega
      have v7 : ((a.toNat : Int) / 16).toNat = a.toNat / 16 := by omega
      have v8 : ((a.toNat : Int) % 16).toNat = a.toNat % 16 := by omega
      have HN := Lib.hid (show hexL (s.data.toList.take (k + 1)) = xs ++ [chexD (a.toNat / 16), chexD (a.toNat % 16)] by
        rw [HT.out, hexL_snoc, HU.out, ha])
      have E1 := Lib.hid (chexLit_at (a.toNat / 16) v1)
      have E2 := Lib.hid (chexLit_at (a.toNat % 16) v2)
      have hown2 : wr.drew.ownsRow w.heap.size 5 1 (.slice p xs.length c) xs.length (xs.map fun c : UInt8 => Value.int .u8 (c.toNat : Int)) := hown
      have hm1 : xs.length + 2 ≤ maxLen := by unfold maxLen; omega
      have hm2 : (xs.length + 2) * 1 ≤ 140737488355328 := by omega
      clear HU HT hxl
      have e15 : bits BinOp.and IntKind.u8 (a.toNat : Int) 15 = (a.toNat : Int) % 16 := u8_and15 _ (by omega) (by omega)
      go_wp2_with fail
      go_region_law (refine step_append_lies _ (by rfl) _ _ _ (by rfl) w.heap.size 5 i0 (.int .u8 0) 1 1 Tryz.underlying98 hi0 y0 y1 y2 rfl (by omega) (.slice p xs.length c) xs.length (xs.map fun c : UInt8 => Value.int .u8 (c.toNat : Int)) (by rfl) (hown2.alloc _) ⟨wr.heap.size, 0, none⟩ 2 2 [.int .u8 ((chexLit[a.toNat / 16]'v1).toNat : Int), .int .u8 ((chexLit[a.toNat % 16]'v2).toNat : Int)] (by rfl) (by rfl) (World.news_of_block (cs := #[.int .u8 ((chexLit[a.toNat / 16]'v1).toNat : Int), .int .u8 ((chexLit[a.toNat % 16]'v2).toNat : Int)]) (t := 5) (fr := (0, 0)) (heap_alloc_new wr.drew _)) (by intro u hu; simp at hu; rcases hu with rfl | rfl <;> rfl) (by omega) hm1 hm2 (by simp; omega) (wr.heap.size + 1) (by simp) ?_; intro g2 cap w5 hown5 hgrow hat hlt5)
      all_goals
        have hX5 : ownB w5 w.heap.size (.slice (some ⟨g2, 0, none⟩) (xs.length + 2) cap) (xs ++ [chexD (a.toNat / 16), chexD (a.toNat % 16)]) := by
          have h := hown5
          rw [E1.out, E2.out] at h
          unfold ownB; simpa using h
        have hb5 : Below w.heap.size w w5 := ((hb.drew).alloc hBr _).grown hgrow (by simp; omega) (own_base hown)
        clear hgrow hat
        go_wp2
        go_roundw
      all_goals first
        | (case rel => exact ⟨k + 1, by omega, by go_num, hb5, by rw [HN.out]; exact hX5⟩)
        | (case measure => simp [intOf]; omega)
    · skip
      have HF := Lib.hid (show hexL (s.data.toList.take k) = hexL s.data.toList by rw [List.take_of_length_le (by have h2 : s.data.size = s.size := rfl; simp; omega)])
      rw [HF.out] at hown
      obtain ⟨p, c, rfl⟩ := ownB_slice hown
      have hcv := convB hown
      go_wp2
      go_ret
      exact ⟨rfl, hb⟩
set_option maxRecDepth 100000 in
set_option maxHeartbeats 1000000 in
theorem rhex_in (s : ByteArray) (hs : s.size ≤ 70000000000000) (w : World) :
    Calls Tryz.prog 201 #[.string s] w fun e w' => e = .returned (.string ⟨(hexL s.data.toList).toArray⟩) ∧ Below w.heap.size w w' := by
  go_enter Tryz.func201, Tryz.ntmps201
  go_wp2
  go_loopw [4, 5] (fun v i wr => ∃ k : Nat, k ≤ s.size ∧ i = .int .i64 k ∧ Below w.heap.size w wr ∧ ownB wr w.heap.size v (hexL (s.data.toList.take k))) (fun _ i _ => s.size - (intOf i).toNat)
  case atStart => exact ⟨0, by omega, rfl, Below.refl _ _, ownB_nil _ _⟩
  case round =>
    obtain ⟨k, hk, rfl, hb, hown⟩ := hrel
    by_cases hlt : k < s.size
    · skip
      have hBr := hb.size
      obtain ⟨xs, hxs⟩ : ∃ xs, hexL (s.data.toList.take k) = xs := ⟨_, rfl⟩
      have hxl : xs.length = 2 * k := by rw [← hxs, hexL_len']; have h2 : s.data.size = s.size := rfl; simp; omega
      have HT := Lib.hid (take_one s k hlt)
      have HU := Lib.hid hxs
      rw [hxs] at hown
      clear hxs
      obtain ⟨p, c, rfl⟩ := ownB_slice hown
      obtain ⟨a, ha⟩ : ∃ a, s[k] = a := ⟨_, rfl⟩
      have hb1 := UInt8.toNat_lt a
      obtain ⟨i0, hi0, y0, y1, y2⟩ := info_parts Tryz.infoU8
      have v1 : a.toNat / 16 < 16 := by omega
      have v2 : a.toNat % 16 < 16 := by omega
      have v3 : (a.toNat : Int) / 16 < 16 := by omega
      have v4 : (a.toNat : Int) % 16 < 16 := by omega
      have v5 : (0 : Int) ≤ (a.toNat : Int) / 16 := by omega
      have v6 : (0 : Int) ≤ (a.toNat : Int) % 16 := by omega
      have v7 : ((a.toNat : Int) / 16).toNat = a.toNat / 16 := by omega
      have v8 : ((a.toNat : Int) % 16).toNat = a.toNat % 16 := by omega
      have HN := Lib.hid (show hexL (s.data.toList.take (k + 1)) = xs ++ [chexD (a.toNat / 16), chexD (a.toNat % 16)] by
        rw [HT.out, hexL_snoc, HU.out, ha])
      have E1 := Lib.hid (chexLit_at (a.toNat / 16) v1)
      have E2 := Lib.hid (chexLit_at (a.toNat % 16) v2)
      have hown2 : wr.drew.ownsRow w.heap.size 5 1 (.slice p xs.length c) xs.length (xs.map fun c : UInt8 => Value.int .u8 (c.toNat : Int)) := hown
      have hm1 : xs.length + 2 ≤ maxLen := by unfold maxLen; omega
      have hm2 : (xs.length + 2) * 1 ≤ 140737488355328 := by omega
      clear HU HT hxl
      have q1 : IntKind.u8.wrap ((a.toNat : Int) / 16) = (a.toNat : Int) / 16 := IntWalk.u8_in _ ⟨by omega, by omega⟩
      have q2 : IntKind.u8.wrap ((a.toNat : Int).tmod 16) = (a.toNat : Int) % 16 := by
        rw [Int.tmod_eq_emod_of_nonneg (by omega)]; exact IntWalk.u8_in _ ⟨by omega, by omega⟩
      have q4 : (a.toNat : Int).tmod 16 = (a.toNat : Int) % 16 := Int.tmod_eq_emod_of_nonneg (by omega)
      have q3 : IntKind.u8.wrap ((a.toNat : Int) % 16) = (a.toNat : Int) % 16 := IntWalk.u8_in _ ⟨by omega, by omega⟩
      go_wp2_with fail
      go_region_law (refine step_append_lies _ (by rfl) _ _ _ (by rfl) w.heap.size 5 i0 (.int .u8 0) 1 1 Tryz.underlying98 hi0 y0 y1 y2 rfl (by omega) (.slice p xs.length c) xs.length (xs.map fun c : UInt8 => Value.int .u8 (c.toNat : Int)) (by rfl) (hown2.alloc _) ⟨wr.heap.size, 0, none⟩ 2 2 [.int .u8 ((chexLit[a.toNat / 16]'v1).toNat : Int), .int .u8 ((chexLit[a.toNat % 16]'v2).toNat : Int)] (by rfl) (by rfl) (World.news_of_block (cs := #[.int .u8 ((chexLit[a.toNat / 16]'v1).toNat : Int), .int .u8 ((chexLit[a.toNat % 16]'v2).toNat : Int)]) (t := 5) (fr := (0, 0)) (heap_alloc_new wr.drew _)) (by intro u hu; simp at hu; rcases hu with rfl | rfl <;> rfl) (by omega) hm1 hm2 (by simp; omega) (wr.heap.size + 1) (by simp) ?_; intro g2 cap w5 hown5 hgrow hat hlt5)
      all_goals
        have hX5 : ownB w5 w.heap.size (.slice (some ⟨g2, 0, none⟩) (xs.length + 2) cap) (xs ++ [chexD (a.toNat / 16), chexD (a.toNat % 16)]) := by
          have h := hown5
          rw [E1.out, E2.out] at h
          unfold ownB; simpa using h
        have hb5 : Below w.heap.size w w5 := ((hb.drew).alloc hBr _).grown hgrow (by simp; omega) (own_base hown)
        clear hgrow hat
        go_wp2
        go_roundw
      all_goals first
        | (case rel => exact ⟨k + 1, by omega, by go_num, hb5, by rw [HN.out]; exact hX5⟩)
        | (case measure => simp [intOf]; omega)
    · skip
      have HF := Lib.hid (show hexL (s.data.toList.take k) = hexL s.data.toList by rw [List.take_of_length_le (by have h2 : s.data.size = s.size := rfl; simp; omega)])
      rw [HF.out] at hown
      obtain ⟨p, c, rfl⟩ := ownB_slice hown
      have hcv := convB hown
      go_wp2
      go_ret
      exact ⟨rfl, hb⟩
end Go.Proofs.YtfgdhcemidlnfaaGreatDoor
/- The walks of plain: one byte of a string, one byte of a name. -/
namespace Go.Proofs.YtfgdhcemidlnfaaGreatDoor
open Go.RowKit Fo

theorem oct3 (c : UInt8) : UInt8.ofNat ((48 + ((c.toNat : Int) / 64) % 8).toNat) = 48 + c / 64 ∧ UInt8.ofNat ((48 + ((c.toNat : Int) / 8) % 8).toNat) = 48 + c / 8 % 8 ∧ UInt8.ofNat ((48 + (c.toNat : Int) % 8).toNat) = 48 + c % 8 := by
  have h : ∀ n, n < 256 → (UInt8.ofNat ((48 + (((UInt8.ofNat n).toNat : Int) / 64) % 8).toNat) = 48 + (UInt8.ofNat n) / 64 ∧ UInt8.ofNat ((48 + (((UInt8.ofNat n).toNat : Int) / 8) % 8).toNat) = 48 + (UInt8.ofNat n) / 8 % 8 ∧ UInt8.ofNat ((48 + ((UInt8.ofNat n).toNat : Int) % 8).toNat) = 48 + (UInt8.ofNat n) % 8) := by decide +kernel
  have := h c.toNat (UInt8.toNat_lt c)
  simpa using this
theorem strC_esc {c : UInt8} (h : c = 40 ∨ c = 41 ∨ c = 92) : strC c = [92, c] := by
  unfold strC
  rw [if_pos (by rcases h with rfl | rfl | rfl <;> decide)]
theorem strC_oct {c : UInt8} (h : ¬ (c = 40 ∨ c = 41 ∨ c = 92)) (h2 : (c.toNat : Int) < 32 ∨ (126 : Int) < c.toNat) : strC c = [92, 48 + c / 64, 48 + c / 8 % 8, 48 + c % 8] := by
  unfold strC
  rw [if_neg (by simp; simpa [and_assoc] using h), if_pos]
  rcases h2 with h2 | h2
  · have : c < 32 := by rw [UInt8.lt_iff_toNat_lt]; show c.toNat < 32; omega
    simp [this]
  · have : 126 < c := by rw [UInt8.lt_iff_toNat_lt]; show 126 < c.toNat; omega
    simp [this]
theorem strC_own {c : UInt8} (h : ¬ (c = 40 ∨ c = 41 ∨ c = 92)) (h2 : ¬ (c.toNat : Int) < 32) (h3 : ¬ (126 : Int) < c.toNat) : strC c = [c] := by
  unfold strC
  rw [if_neg (by simp; simpa [and_assoc] using h), if_neg]
  have a1 : ¬ c < 32 := by rw [UInt8.lt_iff_toNat_lt]; show ¬ c.toNat < 32; omega
  have a2 : ¬ 126 < c := by rw [UInt8.lt_iff_toNat_lt]; show ¬ 126 < c.toNat; omega
  simp [a1, a2]
set_option maxRecDepth 100000 in
set_option maxHeartbeats 1000000 in
theorem str1_in (B : Nat) (l : L) (c : UInt8) (w : World) (h : bldB w B l) (hl : l.length ≤ 1000000000000) (hB : B ≤ w.heap.size) :
    Calls Tryz.prog 233 #[.pointer (some ⟨B, 0, none⟩), .int .u8 c.toNat] w fun e w' => e = .returned (.tuple #[]) ∧ bldB w' B (l ++ strC c) ∧ Below B w w' := by
  by_cases hs : c = 40 ∨ c = 41 ∨ c = 92
  · rw [strC_esc hs]
    rcases hs with rfl | rfl | rfl
    · skip
      go_enter Tryz.func233, Tryz.ntmps233
      go_wp2_with fail
      refine (bld_byte B l 92 (by omega) (by omega) w h (by omega) hB).mono ?_
      rintro e w1 ⟨rfl, h1, hb1⟩
      go_wp2_with fail
      refine (bld_byte B _ 40 (by omega) (by omega) w1 h1 (by simp; omega) (Nat.le_trans hB hb1.size)).mono ?_
      rintro e w2 ⟨rfl, h2, hb2⟩
      have HH := Lib.hid (And.intro h2 (hb1.trans hb2))
      clear h1 h2 hb1 hb2
      go_wp2
      go_end0
      refine ⟨rfl, ?_, HH.out.2⟩
      have := HH.out.1
      rw [List.append_assoc] at this
      exact this
    · skip
      go_enter Tryz.func233, Tryz.ntmps233
      go_wp2_with fail
      refine (bld_byte B l 92 (by omega) (by omega) w h (by omega) hB).mono ?_
      rintro e w1 ⟨rfl, h1, hb1⟩
      go_wp2_with fail
      refine (bld_byte B _ 41 (by omega) (by omega) w1 h1 (by simp; omega) (Nat.le_trans hB hb1.size)).mono ?_
      rintro e w2 ⟨rfl, h2, hb2⟩
      have HH := Lib.hid (And.intro h2 (hb1.trans hb2))
      clear h1 h2 hb1 hb2
      go_wp2
      go_end0
      refine ⟨rfl, ?_, HH.out.2⟩
      have := HH.out.1
      rw [List.append_assoc] at this
      exact this
    · skip
      go_enter Tryz.func233, Tryz.ntmps233
      go_wp2_with fail
      refine (bld_byte B l 92 (by omega) (by omega) w h (by omega) hB).mono ?_
      rintro e w1 ⟨rfl, h1, hb1⟩
      go_wp2_with fail
      refine (bld_byte B _ 92 (by omega) (by omega) w1 h1 (by simp; omega) (Nat.le_trans hB hb1.size)).mono ?_
      rintro e w2 ⟨rfl, h2, hb2⟩
      have HH := Lib.hid (And.intro h2 (hb1.trans hb2))
      clear h1 h2 hb1 hb2
      go_wp2
      go_end0
      refine ⟨rfl, ?_, HH.out.2⟩
      have := HH.out.1
      rw [List.append_assoc] at this
      exact this
  · have hs2 := hs
    simp only [not_or] at hs2
    have e40 : ((c.toNat : Int) == 40) = false := eq_no (n := 40) (by decide) hs2.1
    have e41 : ((c.toNat : Int) == 41) = false := eq_no (n := 41) (by decide) hs2.2.1
    have e92 : ((c.toNat : Int) == 92) = false := eq_no (n := 92) (by decide) hs2.2.2
    have hc := UInt8.toNat_lt c
    by_cases hq : (c.toNat : Int) < 32 ∨ (126 : Int) < c.toNat
    · have HR := Lib.hid (strC_oct hs hq)
      have HO := Lib.hid (oct3 c)
      have q64 : IntKind.u8.wrap ((c.toNat : Int) / 64) = (c.toNat : Int) / 64 := IntWalk.u8_in _ ⟨by omega, by omega⟩
      have q8 : IntKind.u8.wrap ((c.toNat : Int) / 8) = (c.toNat : Int) / 8 := IntWalk.u8_in _ ⟨by omega, by omega⟩
      have q1 : IntKind.u8.wrap (c.toNat : Int) = (c.toNat : Int) := IntWalk.u8_in _ ⟨by omega, by omega⟩
      have t64 : ((c.toNat : Int) / 64).tmod 8 = ((c.toNat : Int) / 64) % 8 := Int.tmod_eq_emod_of_nonneg (by omega)
      have t8 : ((c.toNat : Int) / 8).tmod 8 = ((c.toNat : Int) / 8) % 8 := Int.tmod_eq_emod_of_nonneg (by omega)
      have t1 : (c.toNat : Int).tmod 8 = (c.toNat : Int) % 8 := Int.tmod_eq_emod_of_nonneg (by omega)
      have r64 : IntKind.u8.wrap (((c.toNat : Int) / 64) % 8) = ((c.toNat : Int) / 64) % 8 := IntWalk.u8_in _ ⟨by omega, by omega⟩
      have r8 : IntKind.u8.wrap (((c.toNat : Int) / 8) % 8) = ((c.toNat : Int) / 8) % 8 := IntWalk.u8_in _ ⟨by omega, by omega⟩
      have r1 : IntKind.u8.wrap ((c.toNat : Int) % 8) = (c.toNat : Int) % 8 := IntWalk.u8_in _ ⟨by omega, by omega⟩
      have w64 : IntKind.u8.wrap (48 + ((c.toNat : Int) / 64) % 8) = 48 + ((c.toNat : Int) / 64) % 8 := IntWalk.u8_in _ ⟨by omega, by omega⟩
      have w8 : IntKind.u8.wrap (48 + ((c.toNat : Int) / 8) % 8) = 48 + ((c.toNat : Int) / 8) % 8 := IntWalk.u8_in _ ⟨by omega, by omega⟩
      have w1' : IntKind.u8.wrap (48 + (c.toNat : Int) % 8) = 48 + (c.toNat : Int) % 8 := IntWalk.u8_in _ ⟨by omega, by omega⟩
      have dq : decide ((c.toNat : Int) < 32) = true ∨ decide ((c.toNat : Int) < 32) = false ∧ decide ((126 : Int) < (c.toNat : Int)) = true := by
        by_cases h32 : (c.toNat : Int) < 32
        · exact .inl (decide_eq_true h32)
        · exact .inr ⟨decide_eq_false h32, decide_eq_true (by omega)⟩
      have hi0 : ∀ w : World, (Instr.index 229 (.agg #[.int .u8 64, .int .u8 8, .int .u8 1]) (.int .i64 0)).run Tryz.prog w = .ok (.int .u8 64) w := fun _ => by kernel_rfl
      have hi1 : ∀ w : World, (Instr.index 229 (.agg #[.int .u8 64, .int .u8 8, .int .u8 1]) (.int .i64 1)).run Tryz.prog w = .ok (.int .u8 8) w := fun _ => by kernel_rfl
      have hi2 : ∀ w : World, (Instr.index 229 (.agg #[.int .u8 64, .int .u8 8, .int .u8 1]) (.int .i64 2)).run Tryz.prog w = .ok (.int .u8 1) w := fun _ => by kernel_rfl
      rw [HR.out]
      clear hs hs2 hq
      rcases dq with d32 | ⟨d32, d126⟩
      all_goals
        go_enter Tryz.func233, Tryz.ntmps233
        go_wp2_with fail
        refine (bld_byte B l 92 (by omega) (by omega) w h (by omega) hB).mono ?_
        rintro e w1 ⟨rfl, h1, hb1⟩
        go_wp2
        refine wp_loop_rounds 4 ?_
        rw [rounds_succ]
        go_wp2_with fail
        refine (bld_byte B _ (48 + (c.toNat : Int) / 64 % 8) (by omega) (by omega) w1 h1 (by simp; omega) (Nat.le_trans hB hb1.size)).mono ?_
        rintro e w2 ⟨rfl, h2, hb2⟩
        have hb02 := hb1.trans hb2
        clear h1 hb1 hb2
        go_wp2
        rw [rounds_succ]
        go_wp2_with fail
        refine (bld_byte B _ (48 + (c.toNat : Int) / 8 % 8) (by omega) (by omega) w2 h2 (by simp; omega) (Nat.le_trans hB hb02.size)).mono ?_
        rintro e w3 ⟨rfl, h3, hb3⟩
        have hb03 := hb02.trans hb3
        clear h2 hb02 hb3
        go_wp2
        rw [rounds_succ]
        go_wp2_with fail
        refine (bld_byte B _ (48 + (c.toNat : Int) % 8) (by omega) (by omega) w3 h3 (by simp; omega) (Nat.le_trans hB hb03.size)).mono ?_
        rintro e w4 ⟨rfl, h4, hb4⟩
        have HH := Lib.hid (And.intro h4 (hb03.trans hb4))
        clear h3 hb03 hb4 h4
        go_wp2
        rw [rounds_succ]
        go_wp2
        go_end0
        refine ⟨rfl, ?_, HH.out.2⟩
        have := HH.out.1
        rw [HO.out.1, HO.out.2.1, HO.out.2.2] at this
        simpa using this
    · simp only [not_or] at hq
      have HR := Lib.hid (strC_own hs hq.1 hq.2)
      have d32 : decide ((c.toNat : Int) < 32) = false := decide_eq_false hq.1
      have d126 : decide ((126 : Int) < (c.toNat : Int)) = false := decide_eq_false hq.2
      rw [HR.out]
      clear hs hs2 hq
      go_enter Tryz.func233, Tryz.ntmps233
      go_wp2_with fail
      refine (bld_byte B l c.toNat (by omega) (by omega) w h (by omega) hB).mono ?_
      rintro e w1 ⟨rfl, h1, hb1⟩
      have HH := Lib.hid (And.intro h1 hb1)
      clear h1 hb1
      go_wp2
      go_end0
      refine ⟨rfl, ?_, HH.out.2⟩
      have := HH.out.1
      simpa using this
theorem escW_hex (c : UInt8) : 35 :: hexL [c] = [35, hexD (c.toNat / 16), hexD (c.toNat % 16)] := by
  have h : ∀ n, n < 256 → (35 :: hexL [UInt8.ofNat n] : L) = [35, hexD ((UInt8.ofNat n).toNat / 16), hexD ((UInt8.ofNat n).toNat % 16)] := by decide +kernel
  have := h c.toNat (UInt8.toNat_lt c)
  simpa using this
theorem own_one (w : World) (c : UInt8) : ownB (w.alloc (.cells #[.int .u8 c.toNat] 5)) w.heap.size (.slice (some ⟨w.heap.size, 0, none⟩) 1 1) [c] :=
  ⟨rfl, .inr ⟨w.heap.size, 1, _, rfl, Nat.le_refl _, heap_alloc_new w _, Nat.le_refl _, by unfold maxLen; omega, rfl, rfl⟩⟩
set_option maxRecDepth 100000 in
set_option maxHeartbeats 1000000 in
theorem name1_in (B : Nat) (l : L) (c : UInt8) (w : World) (h : bldB w B l) (hl : l.length ≤ 1000000000000) (hB : B ≤ w.heap.size) :
    Calls Tryz.prog 218 #[.pointer (some ⟨B, 0, none⟩), .int .u8 c.toNat] w fun e w' => e = .returned (.tuple #[]) ∧ bldB w' B (l ++ escW c) ∧ Below B w w' := by
  have hc := UInt8.toNat_lt c
  have HD := Lib.hid (fun W => delim_any c W)
  cases hw : (decide (32 < c) && decide (c ≤ 126) && c != 35 && !delim c)
  · have HR := Lib.hid (show escW c = 35 :: hexL [c] by unfold escW; rw [hw, if_neg (by decide), escW_hex])
    have HX := Lib.hid (fun W => chex_in ⟨#[c]⟩ (by show 1 ≤ _; omega) W)
    have hcv := convB (own_one w c)
    have hsz : ((⟨#[35]⟩ : ByteArray) ++ ⟨(hexL [c]).toArray⟩) = ⟨(35 :: hexL [c]).toArray⟩ := by simp [ByteArray.mk_append_mk]
    have hlx : (hexL [c]).length = 2 := rfl
    obtain ⟨X, hX⟩ : ∃ X, hexL [c] = X := ⟨_, rfl⟩
    rw [show (⟨#[c]⟩ : ByteArray).data.toList = [c] from rfl, hX] at HX
    rw [hX] at HR hsz hlx
    have g1 : ¬ 9223372036854775807 < 1 + X.length := by omega
    have htests : decide ((32 : Int) < (c.toNat : Int)) = false ∨ decide ((32 : Int) < (c.toNat : Int)) = true ∧ (decide ((c.toNat : Int) ≤ 126) = false ∨ decide ((c.toNat : Int) ≤ 126) = true ∧ (((c.toNat : Int) != 35) = false ∨ ((c.toNat : Int) != 35) = true ∧ delim c = true)) := by
      by_cases a1 : (32 : Int) < (c.toNat : Int)
      · refine .inr ⟨decide_eq_true a1, ?_⟩
        by_cases a2 : (c.toNat : Int) ≤ 126
        · refine .inr ⟨decide_eq_true a2, ?_⟩
          by_cases a3 : c = 35
          · left; subst a3; rfl
          · right
            have e : ((c.toNat : Int) == 35) = false := eq_no (n := 35) (by decide) a3
            refine ⟨by rw [bne, e]; rfl, ?_⟩
            cases hd : delim c
            · exfalso
              have b1 : (32 : UInt8) < c := by rw [UInt8.lt_iff_toNat_lt]; exact Int.ofNat_lt.1 a1
              have b2 : c ≤ 126 := by rw [UInt8.le_iff_toNat_le]; exact Int.ofNat_le.1 a2
              simp [b1, b2, a3, hd] at hw
            · rfl
        · exact .inl (decide_eq_false a2)
      · exact .inl (decide_eq_false a1)
    clear hX hw
    rcases htests with t1 | ⟨t1, t2 | ⟨t2, t3 | ⟨t3, t4⟩⟩⟩
    all_goals
      try rw [t4] at HD
      go_enter Tryz.func218, Tryz.ntmps218
      go_wp2_with (first | (go_at_call 208; refine (HD.out _).mono ?_; rintro e w9 ⟨rfl, h9⟩; obtain rfl := h9.symm) | (go_at_call 219; refine (HX.out _).mono ?_; rintro e w1 ⟨rfl, hb1⟩))
      have hbw1 : Below w.heap.size w w1 := (by repeat' (first | (with_reducible first | exact Below.refl _ _ | refine Below.drew ?_ | refine belowDrewN ?_ _ | refine belowIter ?_ ?_ _ _ | refine Below.setCell ?_ ?_ _ | refine Below.alloc ?_ ?_ _ | refine bT hb4 ?_ ?_ | refine bT hb3 ?_ ?_ | refine bT hb2 ?_ ?_ | refine bT hb1 ?_ ?_ | refine bT hbr ?_ ?_ | refine bT hb ?_ ?_) | (simp; done) | (simp; omega) | omega))
      refine (bld_str B l ⟨(35 :: X).toArray⟩ w1 (bldB_below h hbw1) (by show l.length + (35 :: X).length ≤ _; simp; omega) (Nat.le_trans hB hbw1.size)).mono ?_
      rintro e w2 ⟨rfl, h2, hb2⟩
      have HH := Lib.hid (And.intro h2 ((hbw1.mono hB).trans hb2))
      clear h2 hb2
      go_wp2
      go_end0
      exact ⟨rfl, by rw [HR.out]; exact HH.out.1, HH.out.2⟩
  · have HR := Lib.hid (show escW c = [c] by unfold escW; rw [hw, if_pos rfl])
    simp only [Bool.and_eq_true, decide_eq_true_eq, bne_iff_ne, ne_eq, Bool.not_eq_true'] at hw
    obtain ⟨⟨⟨h1, h2⟩, h3⟩, h4⟩ := hw
    have d1 : decide ((32 : Int) < (c.toNat : Int)) = true := by rw [decide_eq_true_eq]; rw [UInt8.lt_iff_toNat_lt] at h1; exact Int.ofNat_lt.2 h1
    have d2 : decide ((c.toNat : Int) ≤ 126) = true := by rw [decide_eq_true_eq]; rw [UInt8.le_iff_toNat_le] at h2; exact Int.ofNat_le.2 h2
    have d3 : ((c.toNat : Int) != 35) = true := by
      have e : ((c.toNat : Int) == 35) = false := eq_no (n := 35) (by decide) h3
      rw [bne, e]; rfl
    rw [h4] at HD
    rw [HR.out]
    clear h1 h2 h3 h4
    go_enter Tryz.func218, Tryz.ntmps218
    go_wp2_with (go_at_call 208; refine (HD.out _).mono ?_; rintro e w9 ⟨rfl, h9⟩; obtain rfl := h9.symm)
    refine (bld_byte B l c.toNat (by omega) (by omega) w h (by omega) hB).mono ?_
    rintro e w1 ⟨rfl, h1, hb1⟩
    have HH := Lib.hid (And.intro h1 hb1)
    clear h1 hb1
    go_wp2
    refine bodyPost_ret (results_none rfl _ _ _) rfl ?_
    refine ⟨rfl, ?_, HH.out.2⟩
    have := HH.out.1
    simpa using this
end Go.Proofs.YtfgdhcemidlnfaaGreatDoor
/- The walks of plain: strings and names. -/
namespace Go.Proofs.YtfgdhcemidlnfaaGreatDoor
open Go.RowKit Fo

theorem strC_len (c : UInt8) : (strC c).length ≤ 4 := by
  unfold strC
  split
  · simp
  · split <;> simp
theorem escW_len (c : UInt8) : (escW c).length ≤ 4 := by
  unfold escW
  split <;> simp
theorem flat_le {g : UInt8 → L} (hg : ∀ c, (g c).length ≤ 4) : ∀ (l : L), (l.flatMap g).length ≤ 4 * l.length
  | [] => by simp
  | c :: l => by
    have := flat_le hg l
    have := hg c
    rw [List.flatMap_cons, List.length_append, List.length_cons]; omega
theorem flat_snoc (g : UInt8 → L) (s : ByteArray) (k : Nat) (h : k < s.size) : (s.data.toList.take (k + 1)).flatMap g = (s.data.toList.take k).flatMap g ++ g s[k] := by
  rw [List.take_succ_eq_append_getElem (by simpa using h), List.flatMap_append]
  simp; rfl
set_option maxRecDepth 100000 in
set_option maxHeartbeats 1000000 in
theorem wstr_in (s : ByteArray) (hs : s.size ≤ 100000) (w : World) :
    Calls Tryz.prog 217 #[.string ⟨#[40]⟩, .string s, .string ⟨#[41]⟩, .func (.func 233) #[] #[]] w fun e w' => e = .returned (.string ⟨(strW s.data.toList).toArray⟩) ∧ Below w.heap.size w w' := by
  have hn0 := Lib.hid (show (1 : Int) + (s.size : Int) + 1 = ((1 + s.size + 1 : Nat) : Int) by omega)
  have hn1 := Lib.hid (show (1 : Int) + (s.size : Int) = ((1 + s.size + 0 : Nat) : Int) by omega)
  have hls : s.data.toList.length = s.size := by simp
  go_enter Tryz.func217, Tryz.ntmps217
  go_wp2_with fail
  first | rw [hn0.out] | rw [hn1.out]
  refine (Tryz.Builder_Grow_fresh w.heap.size w.heap.size (1 + s.size + 1) _ (Nat.le_refl _) (heap_alloc_new w _) (by simp) (by omega)).mono ?_
  rintro e w1 ⟨rfl, h1, hb1⟩
  have H1 := Lib.hid (show bldB w1 w.heap.size [] from .inr h1)
  have hbw1 : Below w.heap.size w w1 := ((Below.refl _ w).alloc (Nat.le_refl _) _).trans hb1
  clear h1 hb1
  go_wp2_with fail
  refine (bld_str w.heap.size [] ⟨#[40]⟩ w1 H1.out (by show 0 + _ ≤ _; simp; try decide) hbw1.size).mono ?_
  rintro e w2 ⟨rfl, h2, hb2⟩
  have hbw2 := hbw1.trans hb2
  have H2 := Lib.hid (show bldB w2 w.heap.size ([40] ++ (s.data.toList.take 0).flatMap strC) by simpa using h2)
  clear h2 hb2 hbw1 H1
  go_wp2
  go_loopw [24] (fun i wr => ∃ k : Nat, k ≤ s.size ∧ i = .int .i64 k ∧ bldB wr w.heap.size ([40] ++ (s.data.toList.take k).flatMap strC) ∧ Below w.heap.size w wr) (fun i _ => s.size - (intOf i).toNat)
  case atStart => exact ⟨0, Nat.zero_le _, rfl, H2.out, hbw2⟩
  case round =>
    clear H2 hbw2 hn0 hn1
    obtain ⟨k, hk, rfl, hB, hbr⟩ := hrel
    have hlen : ((s.data.toList.take k).flatMap strC).length ≤ 4 * s.size := Nat.le_trans (flat_le strC_len _) (by simp; omega)
    by_cases hlt : k < s.size
    · have HSN := Lib.hid (flat_snoc strC s k hlt)
      go_wp2_with fail
      refine (str1_in w.heap.size _ s[k] wr hB (by rw [List.length_append]; simp only [List.length_cons, List.length_nil]; omega) hbr.size).mono ?_
      rintro e w3 ⟨rfl, h3, hb3⟩
      have HH := Lib.hid (And.intro h3 (hbr.trans hb3))
      clear h3 hb3 hB
      go_wp2
      go_roundw
      case rel => exact ⟨k + 1, by omega, by go_num, by rw [HSN.out, ← List.append_assoc]; exact HH.out.1, HH.out.2⟩
      case measure => simp [intOf]; omega
    · obtain rfl : k = s.size := by omega
      have hB2 : bldB wr w.heap.size ([40] ++ s.data.toList.flatMap strC) := by
        rw [List.take_of_length_le (by omega)] at hB; exact hB
      have hlen2 : (s.data.toList.flatMap strC).length ≤ 4 * s.size := by rw [List.take_of_length_le (by omega)] at hlen; exact hlen
      clear hB hlen
      go_wp2_with fail
      refine (bld_str w.heap.size _ ⟨#[41]⟩ wr hB2 (by rw [List.length_append]; show _ + 1 ≤ _; simp only [List.length_cons, List.length_nil]; omega) hbr.size).mono ?_
      rintro e w4 ⟨rfl, h4, hb4⟩
      have hbw4 := hbr.trans hb4
      clear hB2 hb4
      go_wp2_with fail
      refine (bld_get w.heap.size _ w4 h4 hbw4.size).mono ?_
      rintro e w5 ⟨rfl, hb5⟩
      have HBW := Lib.hid (hbw4.trans hb5)
      clear h4 hb5
      go_wp2
      go_ret
      exact ⟨by simp [strW, nameW], HBW.out⟩
set_option maxRecDepth 100000 in
set_option maxHeartbeats 1000000 in
theorem wname_in (s : ByteArray) (hs : s.size ≤ 100000) (w : World) :
    Calls Tryz.prog 217 #[.string ⟨#[47]⟩, .string s, .string ⟨#[]⟩, .func (.func 218) #[] #[]] w fun e w' => e = .returned (.string ⟨(nameW s.data.toList).toArray⟩) ∧ Below w.heap.size w w' := by
  have hn0 := Lib.hid (show (1 : Int) + (s.size : Int) + 0 = ((1 + s.size + 0 : Nat) : Int) by omega)
  have hn1 := Lib.hid (show (1 : Int) + (s.size : Int) = ((1 + s.size + 0 : Nat) : Int) by omega)
  have hls : s.data.toList.length = s.size := by simp
  go_enter Tryz.func217, Tryz.ntmps217
  go_wp2_with fail
  first | rw [hn0.out] | rw [hn1.out]
  refine (Tryz.Builder_Grow_fresh w.heap.size w.heap.size (1 + s.size + 0) _ (Nat.le_refl _) (heap_alloc_new w _) (by simp) (by omega)).mono ?_
  rintro e w1 ⟨rfl, h1, hb1⟩
  have H1 := Lib.hid (show bldB w1 w.heap.size [] from .inr h1)
  have hbw1 : Below w.heap.size w w1 := ((Below.refl _ w).alloc (Nat.le_refl _) _).trans hb1
  clear h1 hb1
  go_wp2_with fail
  refine (bld_str w.heap.size [] ⟨#[47]⟩ w1 H1.out (by show 0 + _ ≤ _; simp; try decide) hbw1.size).mono ?_
  rintro e w2 ⟨rfl, h2, hb2⟩
  have hbw2 := hbw1.trans hb2
  have H2 := Lib.hid (show bldB w2 w.heap.size ([47] ++ (s.data.toList.take 0).flatMap escW) by simpa using h2)
  clear h2 hb2 hbw1 H1
  go_wp2
  go_loopw [24] (fun i wr => ∃ k : Nat, k ≤ s.size ∧ i = .int .i64 k ∧ bldB wr w.heap.size ([47] ++ (s.data.toList.take k).flatMap escW) ∧ Below w.heap.size w wr) (fun i _ => s.size - (intOf i).toNat)
  case atStart => exact ⟨0, Nat.zero_le _, rfl, H2.out, hbw2⟩
  case round =>
    clear H2 hbw2 hn0 hn1
    obtain ⟨k, hk, rfl, hB, hbr⟩ := hrel
    have hlen : ((s.data.toList.take k).flatMap escW).length ≤ 4 * s.size := Nat.le_trans (flat_le escW_len _) (by simp; omega)
    by_cases hlt : k < s.size
    · have HSN := Lib.hid (flat_snoc escW s k hlt)
      go_wp2_with fail
      refine (name1_in w.heap.size _ s[k] wr hB (by rw [List.length_append]; simp only [List.length_cons, List.length_nil]; omega) hbr.size).mono ?_
      rintro e w3 ⟨rfl, h3, hb3⟩
      have HH := Lib.hid (And.intro h3 (hbr.trans hb3))
      clear h3 hb3 hB
      go_wp2
      go_roundw
      case rel => exact ⟨k + 1, by omega, by go_num, by rw [HSN.out, ← List.append_assoc]; exact HH.out.1, HH.out.2⟩
      case measure => simp [intOf]; omega
    · obtain rfl : k = s.size := by omega
      have hB2 : bldB wr w.heap.size ([47] ++ s.data.toList.flatMap escW) := by
        rw [List.take_of_length_le (by omega)] at hB; exact hB
      have hlen2 : (s.data.toList.flatMap escW).length ≤ 4 * s.size := by rw [List.take_of_length_le (by omega)] at hlen; exact hlen
      clear hB hlen
      go_wp2_with fail
      refine (bld_str w.heap.size _ ⟨#[]⟩ wr hB2 (by rw [List.length_append]; show _ + 0 ≤ _; simp only [List.length_cons, List.length_nil]; omega) hbr.size).mono ?_
      rintro e w4 ⟨rfl, h4, hb4⟩
      have hbw4 := hbr.trans hb4
      clear hB2 hb4
      go_wp2_with fail
      refine (bld_get w.heap.size _ w4 h4 hbw4.size).mono ?_
      rintro e w5 ⟨rfl, hb5⟩
      have HBW := Lib.hid (hbw4.trans hb5)
      clear h4 hb5
      go_wp2
      go_ret
      exact ⟨by simp [strW, nameW], HBW.out⟩
end Go.Proofs.YtfgdhcemidlnfaaGreatDoor
/- The walk of plain.Join. -/
namespace Go.Proofs.YtfgdhcemidlnfaaGreatDoor
open Go.RowKit Fo

theorem joinW_cons (c : UInt8) (x : UInt8) (p : L) (l : List L) : joinW c ((x :: p) :: l) = (if (regular c || c == 47) && regular x then [32] else []) ++ (x :: p) ++ joinW ((x :: p).getLast (by simp)) l := rfl
set_option maxRecDepth 100000 in
set_option maxHeartbeats 2000000 in
theorem join_in (S : Nat → Prop) (v : Value) (ps : List L) (w : World) (hK : KeysAt S w v ps) (hS : ∀ b, S b → b < w.heap.size) (hn : ps.length ≤ 100000000) (hl : (joinW 32 ps).length ≤ 1000000000) (hx : ∀ x ∈ ps, x.length ≤ 1000000000) :
    Calls Tryz.prog 130 #[v] w fun e w' => e = .returned (.string ⟨(joinW 32 ps).toArray⟩) ∧ Below w.heap.size w w' := by
  obtain ⟨R, hR⟩ : ∃ R, joinW 32 ps = R := ⟨_, rfl⟩
  rw [hR] at hl ⊢
  obtain ⟨p, cp, hv⟩ : ∃ p c, v = .slice p ps.length c := by
    rcases hK with ⟨e, p, c, h⟩ | ⟨b, o, c, h, _⟩
    · exact ⟨_, _, by rw [e]; exact h⟩
    · exact ⟨_, _, h⟩
  subst hv
  obtain ⟨n, hn1⟩ : ∃ n, ps.length = n := ⟨_, rfl⟩
  have HK := Lib.hid (And.intro hK (And.intro hS hx))
  have HN := Lib.hid hn1
  have HR := Lib.hid (show ([] : L) ++ joinW 32 (ps.drop 0) = R from hR)
  have HL := Lib.hid hl
  rw [hn1] at hn ⊢
  clear hK hS hn1 hR hl hx
  go_enter Tryz.func130, Tryz.ntmps130
  go_wp2
  go_loopw [4, 9] (fun c i wr => ∃ (k : Nat) (lc : UInt8) (acc : L), k ≤ n ∧ i = .int .i64 k ∧ c = .int .u8 lc.toNat ∧ bldB wr w.heap.size acc ∧ Below w.heap.size w wr ∧ Hid (acc ++ joinW lc (ps.drop k) = R)) (fun _ i _ => n - (intOf i).toNat)
  case atStart => exact ⟨0, 32, [], Nat.zero_le _, rfl, rfl, bldB_fresh w, (Below.refl _ _).alloc (Nat.le_refl _) _, HR⟩
  case round =>
    clear HR
    obtain ⟨k, c, acc, hk, rfl, rfl, hB, hbr, HA⟩ := hrel
    by_cases hlk : k < n
    · have hKr : KeysAt S wr (.slice p n cp) ps := by
        have := HK.out.1.kept (fun b h => hbr.block b (HK.out.2.1 b h)); rw [HN.out] at this; exact this
      obtain ⟨b, off, rfl⟩ : ∃ b off, p = some ⟨b, off, none⟩ := by
        rcases hKr with ⟨e, _⟩ | ⟨b, off, c, e, _⟩
        · have := HN.out; rw [e] at this; simp at this; omega
        · cases e; exact ⟨_, _, rfl⟩
      obtain ⟨sb, g0⟩ := key_at hKr HN.out k hlk
      have hk' : k < ps.length := by rw [HN.out]; exact hlk
      have hdr : ps.drop k = ps[k] :: ps.drop (k + 1) := List.drop_eq_getElem_cons hk'
      have hgd : ps.getD k [] = ps[k] := by rw [List.getD_eq_getElem?_getD, List.getElem?_eq_getElem hk']; rfl
      have hxl := HK.out.2.2 _ (List.getElem_mem hk')
      have HJ0 := HA.out
      rw [hdr] at HJ0
      rw [hgd] at g0
      obtain ⟨x, hx⟩ : ∃ x, ps[k] = x := ⟨_, rfl⟩
      rw [hx] at HJ0 g0 hxl
      clear hKr hdr hgd hx
      cases x with
      | nil =>
        have HJ := Lib.hid (show acc ++ joinW c (ps.drop (k + 1)) = R from HJ0)
        clear HJ0
        go_wp2
        go_roundw
        case rel => exact ⟨k + 1, c, acc, by omega, by go_num, rfl, hB, hbr, HJ⟩
        case measure => simp [intOf]; omega
      | cons y q =>
        rw [joinW_cons] at HJ0
        obtain ⟨s, hs⟩ : ∃ s : ByteArray, s = ⟨(y :: q).toArray⟩ := ⟨_, rfl⟩
        have hsl : s.data.toList = y :: q := by rw [hs]
        have hsz : 0 < s.size := by rw [hs]; show 0 < (y :: q).length; simp
        have hs0 : s[0] = y := by subst hs; rfl
        have hsz2 : s.size ≤ 1000000000 := by rw [hs]; exact hxl
        have hlast : (y :: q).getLast (by simp) = s[s.size - 1] := by
          subst hs
          rw [List.getLast_eq_getElem]; rfl
        rw [hlast, ← hsl] at HJ0
        rw [← hs] at g0
        have HJ := Lib.hid HJ0
        have HLN := Lib.hid (show acc.length + s.size + 1 ≤ 1000000002 by
          have h1 := HL.out
          rw [← HJ0] at h1
          have h2 : s.data.toList.length = s.size := by simp
          simp only [List.length_append] at h1
          omega)
        have hne : (s.toList == ([] : L)) = false := by rw [ByteArray.toList_eq, hsl]; rfl
        have hwj : IntKind.i64.wrap ((s.size : Int) - 1) = (s.size : Int) - 1 := IntWalk.i64_in _ (by omega)
        have HRC := Lib.hid (fun W => regular_any c W)
        have HRX := Lib.hid (fun W => regular_any y W)
        clear HJ0 hlast hsl hs hxl
        cases h1 : regular c
        · rw [h1] at HRC
          cases h3 : (c == 47)
          · have e47 : ((c.toNat : Int) == 47) = false := eq_no (n := 47) (by decide) (by simpa using h3)
            have hcond : ((regular c || c == 47) && regular y) = false := by rw [h1, h3]; rfl
            go_wp2_with (go_at_call 172; first | (with_reducible refine (HRC.out _).mono ?_; rintro e w9 ⟨rfl, h9⟩; obtain rfl := h9.symm) | (with_reducible refine (HRX.out _).mono ?_; rintro e w9 ⟨rfl, h9⟩; obtain rfl := h9.symm))
            obtain ⟨w4, hw4⟩ : ∃ w4, wr = w4 := ⟨_, rfl⟩
            have hbw4 : Below w.heap.size w w4 := by rw [← hw4]; exact hbr
            rw [hw4] at hB ⊢
            clear hw4
            have HRR := Lib.hid (show acc ++ s.data.toList ++ joinW s[s.size - 1] (ps.drop (k + 1)) = R by rw [← HJ.out, hcond, if_neg (by decide)]; simp)
            go_wp2_with fail
            refine (bld_str w.heap.size _ s w4 hB (by have := HLN.out; (try simp only [List.length_append, List.length_cons, List.length_nil]); omega) hbw4.size).mono ?_
            rintro e w5 ⟨rfl, h5, hb5⟩
            have HH := Lib.hid (And.intro h5 (hbw4.trans hb5))
            clear h5 hb5
            go_wp2
            go_roundw
            case rel => exact ⟨k + 1, s[s.size - 1], _, by omega, by go_num, rfl, HH.out.1, HH.out.2, Lib.hid (by first | exact HRR.out | (rw [← HRR.out]; simp))⟩
            case measure => simp [intOf]; omega
          · have e47 : ((c.toNat : Int) == 47) = true := eq_yes (n := 47) (by decide) (by simpa using h3)
            cases h2 : regular y
            · rw [h2] at HRX
              have hcond : ((regular c || c == 47) && regular y) = false := by rw [h1, h3, h2]; rfl
              go_wp2_with (go_at_call 172; first | (with_reducible refine (HRC.out _).mono ?_; rintro e w9 ⟨rfl, h9⟩; obtain rfl := h9.symm) | (with_reducible refine (HRX.out _).mono ?_; rintro e w9 ⟨rfl, h9⟩; obtain rfl := h9.symm))
              obtain ⟨w4, hw4⟩ : ∃ w4, wr = w4 := ⟨_, rfl⟩
              have hbw4 : Below w.heap.size w w4 := by rw [← hw4]; exact hbr
              rw [hw4] at hB ⊢
              clear hw4
              have HRR := Lib.hid (show acc ++ s.data.toList ++ joinW s[s.size - 1] (ps.drop (k + 1)) = R by rw [← HJ.out, hcond, if_neg (by decide)]; simp)
              go_wp2_with fail
              refine (bld_str w.heap.size _ s w4 hB (by have := HLN.out; (try simp only [List.length_append, List.length_cons, List.length_nil]); omega) hbw4.size).mono ?_
              rintro e w5 ⟨rfl, h5, hb5⟩
              have HH := Lib.hid (And.intro h5 (hbw4.trans hb5))
              clear h5 hb5
              go_wp2
              go_roundw
              case rel => exact ⟨k + 1, s[s.size - 1], _, by omega, by go_num, rfl, HH.out.1, HH.out.2, Lib.hid (by first | exact HRR.out | (rw [← HRR.out]; simp))⟩
              case measure => simp [intOf]; omega
            · rw [h2] at HRX
              have hcond : ((regular c || c == 47) && regular y) = true := by rw [h1, h3, h2]; rfl
              go_wp2_with (go_at_call 172; first | (with_reducible refine (HRC.out _).mono ?_; rintro e w9 ⟨rfl, h9⟩; obtain rfl := h9.symm) | (with_reducible refine (HRX.out _).mono ?_; rintro e w9 ⟨rfl, h9⟩; obtain rfl := h9.symm))
              refine (bld_byte w.heap.size acc 32 (by omega) (by omega) wr hB (by have := HLN.out; omega) hbr.size).mono ?_
              rintro e w4 ⟨rfl, h4, hb4⟩
              have hbw4 := hbr.trans hb4
              clear hb4 hB
              have HRR := Lib.hid (show acc ++ [UInt8.ofNat (32 : Int).toNat] ++ s.data.toList ++ joinW s[s.size - 1] (ps.drop (k + 1)) = R by rw [← HJ.out, hcond, if_pos rfl]; simp)
              go_wp2_with fail
              refine (bld_str w.heap.size _ s w4 h4 (by have := HLN.out; (try simp only [List.length_append, List.length_cons, List.length_nil]); omega) hbw4.size).mono ?_
              rintro e w5 ⟨rfl, h5, hb5⟩
              have HH := Lib.hid (And.intro h5 (hbw4.trans hb5))
              clear h5 hb5
              go_wp2
              go_roundw
              case rel => exact ⟨k + 1, s[s.size - 1], _, by omega, by go_num, rfl, HH.out.1, HH.out.2, Lib.hid (by first | exact HRR.out | (rw [← HRR.out]; simp))⟩
              case measure => simp [intOf]; omega
        · rw [h1] at HRC
          cases h2 : regular y
          · rw [h2] at HRX
            have hcond : ((regular c || c == 47) && regular y) = false := by rw [h1, h2]; rfl
            go_wp2_with (go_at_call 172; first | (with_reducible refine (HRC.out _).mono ?_; rintro e w9 ⟨rfl, h9⟩; obtain rfl := h9.symm) | (with_reducible refine (HRX.out _).mono ?_; rintro e w9 ⟨rfl, h9⟩; obtain rfl := h9.symm))
            obtain ⟨w4, hw4⟩ : ∃ w4, wr = w4 := ⟨_, rfl⟩
            have hbw4 : Below w.heap.size w w4 := by rw [← hw4]; exact hbr
            rw [hw4] at hB ⊢
            clear hw4
            have HRR := Lib.hid (show acc ++ s.data.toList ++ joinW s[s.size - 1] (ps.drop (k + 1)) = R by rw [← HJ.out, hcond, if_neg (by decide)]; simp)
            go_wp2_with fail
            refine (bld_str w.heap.size _ s w4 hB (by have := HLN.out; (try simp only [List.length_append, List.length_cons, List.length_nil]); omega) hbw4.size).mono ?_
            rintro e w5 ⟨rfl, h5, hb5⟩
            have HH := Lib.hid (And.intro h5 (hbw4.trans hb5))
            clear h5 hb5
            go_wp2
            go_roundw
            case rel => exact ⟨k + 1, s[s.size - 1], _, by omega, by go_num, rfl, HH.out.1, HH.out.2, Lib.hid (by first | exact HRR.out | (rw [← HRR.out]; simp))⟩
            case measure => simp [intOf]; omega
          · rw [h2] at HRX
            have hcond : ((regular c || c == 47) && regular y) = true := by rw [h1, h2]; rfl
            go_wp2_with (go_at_call 172; first | (with_reducible refine (HRC.out _).mono ?_; rintro e w9 ⟨rfl, h9⟩; obtain rfl := h9.symm) | (with_reducible refine (HRX.out _).mono ?_; rintro e w9 ⟨rfl, h9⟩; obtain rfl := h9.symm))
            refine (bld_byte w.heap.size acc 32 (by omega) (by omega) wr hB (by have := HLN.out; omega) hbr.size).mono ?_
            rintro e w4 ⟨rfl, h4, hb4⟩
            have hbw4 := hbr.trans hb4
            clear hb4 hB
            have HRR := Lib.hid (show acc ++ [UInt8.ofNat (32 : Int).toNat] ++ s.data.toList ++ joinW s[s.size - 1] (ps.drop (k + 1)) = R by rw [← HJ.out, hcond, if_pos rfl]; simp)
            go_wp2_with fail
            refine (bld_str w.heap.size _ s w4 h4 (by have := HLN.out; (try simp only [List.length_append, List.length_cons, List.length_nil]); omega) hbw4.size).mono ?_
            rintro e w5 ⟨rfl, h5, hb5⟩
            have HH := Lib.hid (And.intro h5 (hbw4.trans hb5))
            clear h5 hb5
            go_wp2
            go_roundw
            case rel => exact ⟨k + 1, s[s.size - 1], _, by omega, by go_num, rfl, HH.out.1, HH.out.2, Lib.hid (by first | exact HRR.out | (rw [← HRR.out]; simp))⟩
            case measure => simp [intOf]; omega
    · have HA2 := Lib.hid (show acc = R by
        rw [← HA.out, List.drop_eq_nil_of_le (by rw [HN.out]; omega)]; simp [joinW])
      go_wp2_with fail
      refine (bld_get w.heap.size _ wr hB hbr.size).mono ?_
      rintro e w5 ⟨rfl, hb5⟩
      have HBW := Lib.hid (hbr.trans hb5)
      clear hB hb5
      go_wp2
      go_ret
      exact ⟨by rw [HA2.out]; rfl, HBW.out⟩
end Go.Proofs.YtfgdhcemidlnfaaGreatDoor
/- The walks of plain: strings and names as they are asked for; fixed-point numbers. -/
namespace Go.Proofs.YtfgdhcemidlnfaaGreatDoor
open Go.RowKit Fo

set_option maxHeartbeats 400000 in
theorem pString_in (s : L) (hs : s.length ≤ 32767) (w : World) :
    Calls Tryz.prog 216 #[.string ⟨s.toArray⟩] w fun e w' => e = .returned (.tuple #[.string ⟨(strW s).toArray⟩, .int .i64 0]) ∧ Below w.heap.size w w' := by
  have HW := Lib.hid (fun W => wstr_in ⟨s.toArray⟩ (by show s.length ≤ _; omega) W)
  have d0 : decide ((32767 : Int) < (s.length : Int)) = false := by simp; omega
  go_enter Tryz.func216, Tryz.ntmps216
  go_wp2_with fail
  refine (HW.out _).mono ?_
  rintro e w1 ⟨rfl, hb1⟩
  go_wp2
  go_ret2
  exact ⟨by simp, hb1⟩
set_option maxHeartbeats 400000 in
theorem pName_in (s : L) (hs : nameB s = true) (w : World) :
    Calls Tryz.prog 194 #[.string ⟨s.toArray⟩] w fun e w' => e = .returned (.tuple #[.string ⟨(nameW s).toArray⟩, .int .i64 0]) ∧ Below w.heap.size w w' := by
  have h2 : s.all (· != 0) = true ∧ s.length ≤ 127 := by unfold nameB at hs; simpa using hs
  have HW := Lib.hid (fun W => wname_in ⟨s.toArray⟩ (by show s.length ≤ _; omega) W)
  have d0 : decide ((127 : Int) < (s.length : Int)) = false := by simp; omega
  have hz : Lib.indexByte s 0 < 0 := by
    have := zero_ix s
    rw [h2.1] at this
    simpa using this
  have d1 : decide ((0 : Int) ≤ Lib.indexByte s 0) = false := by simp; omega
  clear hs h2
  go_enter Tryz.func194, Tryz.ntmps194
  go_wp2_with (go_at_call 211; refine (Tryz.strings_IndexByte _ _ _).mono ?_; rintro e w' ⟨rfl, rfl⟩)
  refine (HW.out _).mono ?_
  rintro e w1 ⟨rfl, hb1⟩
  go_wp2
  go_ret2
  exact ⟨by simp, hb1⟩
/-- A number's digits, at least so many; the first number bounds the rounds. -/
def rowF : Nat → Nat → Nat → L
  | 0, _, _ => []
  | f + 1, m, need => if m = 0 ∧ need = 0 then [] else rowF f (m / 10) (need - 1) ++ [UInt8.ofNat (48 + m % 10)]
set_option maxRecDepth 100000 in
set_option maxHeartbeats 1000000 in
theorem frow_in (n least : Nat) (hn : n < 10 ^ 18) (hl : least ≤ 20) (w : World) :
    Calls Tryz.prog 243 #[.int .i64 n, .int .i64 least] w fun e w' => e = .returned (.string ⟨(rowF 30 n least).toArray⟩) ∧ Below w.heap.size w w' := by
  obtain ⟨R, hR⟩ : ∃ R, rowF 30 n least = R := ⟨_, rfl⟩
  rw [hR]
  have HR := Lib.hid (show rowF 30 n (least - ([] : L).length) ++ [] = R by simpa using hR)
  clear hR
  go_enter Tryz.func243, Tryz.ntmps243
  go_wp2
  go_loopg [0, 5] 30 (fun f a b wr => ∃ (m : Nat) (acc : L), a = .int .i64 m ∧ b = .string ⟨acc.toArray⟩ ∧ m < 10 ^ 18 ∧ acc.length ≤ 30 ∧ acc.length + f = 30 ∧ Hid (m < 10 ^ f ∧ least - acc.length ≤ f ∧ rowF f m (least - acc.length) ++ acc = R) ∧ Below w.heap.size w wr)
  case atStart => exact ⟨n, [], rfl, rfl, hn, by decide, rfl, Lib.hid ⟨Nat.lt_of_lt_of_le hn (by decide), by simp; omega, HR.out⟩, Below.refl _ _⟩
  case round =>
    clear HR
    obtain ⟨m, acc, rfl, rfl, hm, hal, haf, HA, hbr⟩ := hrel
    by_cases hgo : 0 < m ∨ acc.length < least
    · obtain ⟨f, rfl⟩ : ∃ f, gk = f + 1 := by
        refine ⟨gk - 1, ?_⟩
        have h1 := HA.out.1
        have h2 := HA.out.2.1
        cases gk with
        | zero => simp at h1; omega
        | succ f => rfl
      have hdig : (UInt8.ofNat (48 + m % 10)).toNat = 48 + m % 10 := by simp only [UInt8.toNat_ofNat']; omega
      obtain ⟨c, hc⟩ : ∃ c, UInt8.ofNat (48 + m % 10) = c := ⟨_, rfl⟩
      rw [hc] at hdig
      have HX := Lib.hid (show m / 10 < 10 ^ f ∧ least - (c :: acc).length ≤ f ∧ rowF f (m / 10) (least - (c :: acc).length) ++ (c :: acc) = R by
        have h3 := HA.out.2.2
        rw [rowF, if_neg (by omega), hc] at h3
        refine ⟨?_, by have := HA.out.2.1; simp; omega, ?_⟩
        · have := HA.out.1
          rw [Nat.pow_succ] at this
          omega
        · rw [← h3, show least - (c :: acc).length = least - acc.length - 1 by simp; omega]; simp)
      have hcv := convB (own_one wr c)
      rw [show ((c.toNat : Nat) : Int) = 48 + (m : Int) % 10 by omega] at hcv
      have hcat : ((⟨#[c]⟩ : ByteArray) ++ ⟨acc.toArray⟩) = ⟨(c :: acc).toArray⟩ := by simp [ByteArray.mk_append_mk]
      have g1 : ¬ 9223372036854775807 < 1 + acc.length := by omega
      have q0 : (m : Int).tmod 10 = (m : Int) % 10 := Int.tmod_eq_emod_of_nonneg (by omega)
      have q1 : IntKind.i64.wrap ((m : Int) % 10) = (m : Int) % 10 := IntWalk.i64_in _ (by omega)
      have q2 : IntKind.i64.wrap (48 + (m : Int) % 10) = 48 + (m : Int) % 10 := IntWalk.i64_in _ (by omega)
      have q3 : IntKind.u8.wrap (48 + (m : Int) % 10) = 48 + (m : Int) % 10 := IntWalk.u8_in _ ⟨by omega, by omega⟩
      have q4 : IntKind.i64.wrap ((m : Int) / 10) = (m : Int) / 10 := IntWalk.i64_in _ (by omega)
      have hm10 : ((m : Int) / 10) = ((m / 10 : Nat) : Int) := by omega
      have HM := Lib.hid hm10
      have HGO := Lib.hid hgo
      clear hm10 hgo HA
      by_cases hm0 : m = 0
      · subst hm0
        have d1 : decide (acc.length < least) = true := by have := HGO.out; rw [decide_eq_true_eq]; omega
        obtain rfl : c = 48 := hc.symm
        rw [show (48 + ((0 : Nat) : Int) % 10) = 48 from rfl] at hcv
        clear q0 q1 q2 q3 q4 hdig hc
        go_wp2
        go_roundg f
        case measure => omega
        case rel => exact ⟨0, 48 :: acc, by first | rfl | simp, by first | rfl | simp, by omega, by simp; omega, by simp; omega, HX, hbr.alloc hbr.size _⟩
      · have d0 : decide (0 < m) = true := by rw [decide_eq_true_eq]; omega
        have d00 : 0 < m := by omega
        clear hc
        go_wp2
        go_roundg f
        case measure => omega
        case rel => exact ⟨m / 10, c :: acc, by first | rfl | (rw [← HM.out]) | simp, by first | rfl | simp, by omega, by simp; omega, by simp; omega, HX, hbr.alloc hbr.size _⟩
    · obtain rfl : m = 0 := by omega
      have d1 : decide (acc.length < least) = false := by rw [decide_eq_false_iff_not]; omega
      have HX := Lib.hid (show acc = R by
        have h3 := HA.out.2.2
        cases gk with
        | zero => simpa [rowF] using h3
        | succ f => rw [rowF, if_pos (by omega)] at h3; simpa using h3)
      clear hgo HA
      go_wp2
      go_ret
      exact ⟨by rw [← HX.out]; rfl, hbr⟩
end Go.Proofs.YtfgdhcemidlnfaaGreatDoor
/- The walks of fix.Text and plain.Real. -/
namespace Go.Proofs.YtfgdhcemidlnfaaGreatDoor
open Go.RowKit Fo

theorem rowF_zero : ∀ (f m : Nat), m < 10 ^ f → rowF f m 0 = if m = 0 then [] else digU m
  | 0, m, h => by simp at h; simp [rowF, h]
  | f + 1, m, h => by
    rw [rowF]
    by_cases h0 : m = 0
    · rw [if_pos ⟨h0, rfl⟩, if_pos h0]
    · rw [if_neg (by simp [h0]), if_neg h0, rowF_zero f (m / 10) (by rw [Nat.pow_succ] at h; omega)]
      conv => rhs; unfold digU
      by_cases h10 : m < 10
      · rw [if_pos h10, if_pos (by omega), List.nil_append, Nat.mod_eq_of_lt h10]
      · rw [if_neg h10, if_neg (by omega)]
theorem rowF_one (m : Nat) (h : m < 10 ^ 18) : rowF 30 m 1 = digU m := by
  rw [rowF, if_neg (by simp), rowF_zero 29 (m / 10) (Nat.lt_of_le_of_lt (Nat.div_le_self _ _) (Nat.lt_trans h (by decide)))]
  conv => rhs; unfold digU
  by_cases h10 : m < 10
  · rw [if_pos h10, if_pos (by omega), List.nil_append, Nat.mod_eq_of_lt h10]
  · rw [if_neg h10, if_neg (by omega)]
theorem rowF_four (m : Nat) (h : m < 10000) : rowF 30 m 4 = [UInt8.ofNat (48 + m / 1000 % 10), UInt8.ofNat (48 + m / 100 % 10), UInt8.ofNat (48 + m / 10 % 10), UInt8.ofNat (48 + m % 10)] := by
  rw [rowF, if_neg (by simp), rowF, if_neg (by simp), rowF, if_neg (by simp), rowF, if_neg (by simp), rowF, if_pos (by omega)]
  rw [show m / 10 / 10 = m / 100 by omega, show m / 100 / 10 = m / 1000 by omega]
  rfl
theorem dig_zero (k : Nat) (h : k < 10) : ((UInt8.ofNat (48 + k)) == (48 : UInt8)) = decide (k = 0) := by
  have e : (UInt8.ofNat (48 + k)).toNat = 48 + k := by simp only [UInt8.toNat_ofNat']; omega
  by_cases h0 : k = 0
  · subst h0; rfl
  · rw [decide_eq_false h0, beq_eq_false_iff_ne]
    intro hh
    have := congrArg UInt8.toNat hh
    rw [e] at this
    simp at this
    omega
theorem trim_four (a b c d : Nat) (ha : a < 10) (hb : b < 10) (hc : c < 10) (hd : d < 10) : trim4 a b c d = if Lib.trimRightB [UInt8.ofNat (48 + a), UInt8.ofNat (48 + b), UInt8.ofNat (48 + c), UInt8.ofNat (48 + d)] 48 = [] then [48] else Lib.trimRightB [UInt8.ofNat (48 + a), UInt8.ofNat (48 + b), UInt8.ofNat (48 + c), UInt8.ofNat (48 + d)] 48 := by
  replace ha := dig_zero a ha
  replace hb := dig_zero b hb
  replace hc := dig_zero c hc
  replace hd := dig_zero d hd
  have za : a = 0 → UInt8.ofNat (48 + a) = 48 := fun h => by subst h; rfl
  unfold trim4 Lib.trimRightB
  generalize UInt8.ofNat (48 + a) = A at *
  generalize UInt8.ofNat (48 + b) = B at *
  generalize UInt8.ofNat (48 + c) = C at *
  generalize UInt8.ofNat (48 + d) = D at *
  by_cases d0 : d = 0
  · by_cases c0 : c = 0
    · by_cases b0 : b = 0
      · by_cases a0 : a = 0
        · simp [d0, c0, b0, a0, ha, hb, hc, hd, List.dropWhile, za a0]
        · simp [d0, c0, b0, a0, ha, hb, hc, hd, List.dropWhile]
      · simp [d0, c0, b0, ha, hb, hc, hd, List.dropWhile]
    · simp [d0, c0, ha, hb, hc, hd, List.dropWhile]
  · simp [d0, hd, List.dropWhile]
theorem trim_frac (m : Nat) (h : m < 10000) : fracT m = if Lib.trimRightB (rowF 30 m 4) 48 = [] then [48] else Lib.trimRightB (rowF 30 m 4) 48 := by
  rw [rowF_four m h]
  exact trim_four _ _ _ _ (by omega) (by omega) (by omega) (by omega)
theorem fracT_mod (k : Nat) : fracT (k % 10000) = fracT k := by
  unfold fracT
  rw [show k % 10000 / 1000 % 10 = k / 1000 % 10 by omega, show k % 10000 / 100 % 10 = k / 100 % 10 by omega, show k % 10000 / 10 % 10 = k / 10 % 10 by omega, show k % 10000 % 10 = k % 10 by omega]
theorem fwithin_in (n : Int) (h1 : -1073741824 ≤ n) (h2 : n ≤ 1073741824) (w : World) :
    Calls Tryz.prog 242 #[.int .i64 n] w fun e w' => e = .returned (.bool true) ∧ w' = w := by
  have d0 : decide (-1073741824 ≤ n) = true := decide_eq_true h1
  have d1 : decide (n ≤ 1073741824) = true := decide_eq_true h2
  clear h1 h2
  go_enter Tryz.func242, Tryz.ntmps242
  go_wp2
  go_ret
  exact ⟨rfl, rfl⟩
set_option maxRecDepth 100000 in
set_option maxHeartbeats 1000000 in
theorem ftext_in (n : Int) (h1 : -1073741824 ≤ n) (h2 : n ≤ 1073741824) (w : World) :
    Calls Tryz.prog 232 #[.int .i64 n] w fun e w' => e = .returned (.string ⟨(realT n).toArray⟩) ∧ Below w.heap.size w w' := by
  obtain ⟨k, hk⟩ : ∃ k, n.natAbs = k := ⟨_, rfl⟩
  have HW := Lib.hid (fun W => fwithin_in n h1 h2 W)
  have HA : Hid (∀ W, Calls Tryz.prog 243 #[.int .i64 ((k / 10000 : Nat) : Int), .int .i64 1] W fun e w' => e = .returned (.string ⟨(rowF 30 (k / 10000) 1).toArray⟩) ∧ Below W.heap.size W w') := Lib.hid (fun W => frow_in (k / 10000) 1 (Nat.lt_of_lt_of_le (by omega : k / 10000 < 1000000) (by decide)) (by decide) W)
  have HB : Hid (∀ W, Calls Tryz.prog 243 #[.int .i64 ((k % 10000 : Nat) : Int), .int .i64 4] W fun e w' => e = .returned (.string ⟨(rowF 30 (k % 10000) 4).toArray⟩) ∧ Below W.heap.size W w') := Lib.hid (fun W => frow_in (k % 10000) 4 (Nat.lt_of_lt_of_le (by omega : k % 10000 < 1000000) (by decide)) (by decide) W)
  rw [rowF_one _ (Nat.lt_of_lt_of_le (by omega : k / 10000 < 1000000) (by decide))] at HA
  obtain ⟨b0, b1, b2, b3, hB⟩ : ∃ b0 b1 b2 b3, rowF 30 (k % 10000) 4 = [b0, b1, b2, b3] := ⟨_, _, _, _, rowF_four _ (by omega)⟩
  have HF : Hid (realU k = digU (k / 10000) ++ 46 :: (if Lib.trimRightB [b0, b1, b2, b3] 48 = [] then [48] else Lib.trimRightB [b0, b1, b2, b3] 48)) := Lib.hid (by
    unfold realU
    rw [← fracT_mod, trim_frac _ (by omega), hB])
  have HC := Lib.hid (fun W => Tryz.strings_TrimRight_one ⟨#[b0, b1, b2, b3]⟩ 48 (by decide) W (by show 4 ≤ _; omega))
  rw [show (⟨#[b0, b1, b2, b3]⟩ : ByteArray).data.toList = [b0, b1, b2, b3] from rfl] at HC
  rw [hB] at HB
  have hT4 : (Lib.trimRightB [b0, b1, b2, b3] 48).length ≤ 4 := by
    unfold Lib.trimRightB
    rw [List.length_reverse]
    exact (List.dropWhile_sublist _).length_le
  obtain ⟨T, hT⟩ : ∃ T, Lib.trimRightB [b0, b1, b2, b3] 48 = T := ⟨_, rfl⟩
  rw [hT] at HF HC hT4
  clear hT hB
  have hAl : (digU (k / 10000)).length ≤ 20 := Nat.le_trans (digU_len (k / 10000) 7 (Nat.lt_of_lt_of_le (by omega : k / 10000 < 1000000) (by decide))) (by decide)
  obtain ⟨A, hA⟩ : ∃ A, digU (k / 10000) = A := ⟨_, rfl⟩
  rw [hA] at HF HA hAl
  clear hA
  obtain ⟨V, hV⟩ : ∃ V, (if T = [] then [48] else T) = V := ⟨_, rfl⟩
  rw [hV] at HF
  have hkq : k / 10000 < 1000000 := by omega
  have hkr : k % 10000 < 10000 := by omega
  have q0 : (k : Int).tdiv 10000 = ((k / 10000 : Nat) : Int) := by rw [Int.tdiv_eq_ediv_of_nonneg (by omega)]; omega
  have q1 : (k : Int).tmod 10000 = ((k % 10000 : Nat) : Int) := by rw [Int.tmod_eq_emod_of_nonneg (by omega)]; omega
  have q5 : (k : Int) / 10000 = ((k / 10000 : Nat) : Int) := by omega
  have q6 : (k : Int) % 10000 = ((k % 10000 : Nat) : Int) := by omega
  obtain ⟨p, hp⟩ : ∃ p, k / 10000 = p := ⟨_, rfl⟩
  obtain ⟨r, hr⟩ : ∃ r, k % 10000 = r := ⟨_, rfl⟩
  rw [hp] at HA q0 q5 hkq
  rw [hr] at HB q1 q6 hkr
  clear hp hr
  have q2 : IntKind.i64.wrap (p : Int) = (p : Int) := IntWalk.i64_in _ (by omega)
  have q3 : IntKind.i64.wrap (r : Int) = (r : Int) := IntWalk.i64_in _ (by omega)
  by_cases hn : n < 0
  · obtain rfl : n = -(k : Int) := by omega
    have d0 : decide (0 < k) = true := decide_eq_true (by omega)
    have q4 : IntKind.i64.wrap (- -(k : Int)) = (k : Int) := by rw [Int.neg_neg]; exact IntWalk.i64_in _ (by omega)
    have q7 : IntKind.i64.wrap (k : Int) = (k : Int) := IntWalk.i64_in _ (by omega)
    have HR := Lib.hid (show realT (-(k : Int)) = 45 :: (A ++ 46 :: V) by unfold realT; rw [if_pos hn, hk, HF.out])
    clear HF h1 h2 hk hn
    go_enter Tryz.func232, Tryz.ntmps232
    go_wp2_with fail
    refine (HW.out _).mono ?_
    rintro e w1 ⟨rfl, rfl⟩
    go_wp2_with fail
    refine (HA.out _).mono ?_
    rintro e w1 ⟨rfl, hb1⟩
    go_wp2_with fail
    refine (HB.out _).mono ?_
    rintro e w2 ⟨rfl, hb2⟩
    go_wp2_with fail
    refine (HC.out _).mono ?_
    rintro e w3 ⟨rfl, rfl⟩
    have hb12 := hb1.trans (hb2.mono hb1.size)
    rcases T with _ | ⟨t, T⟩
    · obtain rfl : V = [48] := by rw [← hV, if_pos rfl]
      have g1 : ¬ 9223372036854775807 < 1 + A.length := by omega
      have g2 : ¬ 9223372036854775807 < 1 + A.length + 1 := by omega
      have g3 : ¬ 9223372036854775807 < 1 + A.length + 1 + 1 := by omega
      clear hV hT4 HC
      go_wp2
      go_ret
      exact ⟨by rw [HR.out]; simp [ByteArray.mk_append_mk], hb12⟩
    · obtain rfl : V = t :: T := by rw [← hV, if_neg (by simp)]
      have hT5 : T.length + 1 ≤ 4 := hT4
      have g1 : ¬ 9223372036854775807 < 1 + A.length := by omega
      have g2 : ¬ 9223372036854775807 < 1 + A.length + 1 := by omega
      have g3 : ¬ 9223372036854775807 < 1 + A.length + 1 + (T.length + 1) := by omega
      clear hV hT4 HC
      go_wp2
      go_ret
      exact ⟨by rw [HR.out]; simp [ByteArray.mk_append_mk], hb12⟩
  · obtain rfl : n = (k : Int) := by omega
    have d0 : decide ((k : Int) < 0) = false := decide_eq_false hn
    have q7 : IntKind.i64.wrap (k : Int) = (k : Int) := IntWalk.i64_in _ (by omega)
    have HR := Lib.hid (show realT (k : Int) = A ++ 46 :: V by unfold realT; rw [if_neg hn, hk, HF.out])
    clear HF h1 h2 hk hn
    go_enter Tryz.func232, Tryz.ntmps232
    go_wp2_with fail
    refine (HW.out _).mono ?_
    rintro e w1 ⟨rfl, rfl⟩
    go_wp2_with fail
    refine (HA.out _).mono ?_
    rintro e w1 ⟨rfl, hb1⟩
    go_wp2_with fail
    refine (HB.out _).mono ?_
    rintro e w2 ⟨rfl, hb2⟩
    go_wp2_with fail
    refine (HC.out _).mono ?_
    rintro e w3 ⟨rfl, rfl⟩
    have hb12 := hb1.trans (hb2.mono hb1.size)
    rcases T with _ | ⟨t, T⟩
    · obtain rfl : V = [48] := by rw [← hV, if_pos rfl]
      have g1 : ¬ 9223372036854775807 < A.length := by omega
      have g2 : ¬ 9223372036854775807 < A.length + 1 := by omega
      have g3 : ¬ 9223372036854775807 < A.length + 1 + 1 := by omega
      clear hV hT4 HC
      go_wp2
      go_ret
      exact ⟨by rw [HR.out]; simp [ByteArray.mk_append_mk], hb12⟩
    · obtain rfl : V = t :: T := by rw [← hV, if_neg (by simp)]
      have hT5 : T.length + 1 ≤ 4 := hT4
      have g1 : ¬ 9223372036854775807 < A.length := by omega
      have g2 : ¬ 9223372036854775807 < A.length + 1 := by omega
      have g3 : ¬ 9223372036854775807 < A.length + 1 + (T.length + 1) := by omega
      clear hV hT4 HC
      go_wp2
      go_ret
      exact ⟨by rw [HR.out]; simp [ByteArray.mk_append_mk], hb12⟩
set_option maxHeartbeats 400000 in
theorem preal_in (n : Int) (h1 : -1073741824 ≤ n) (h2 : n ≤ 1073741824) (w : World) :
    Calls Tryz.prog 215 #[.int .i64 n] w fun e w' => e = .returned (.tuple #[.string ⟨(realT n).toArray⟩, .int .i64 0]) ∧ Below w.heap.size w w' := by
  have HF := Lib.hid (fun W => ftext_in n h1 h2 W)
  have d0 : decide (n < -1073741824) = false := decide_eq_false (by omega)
  have d1 : decide (1073741824 < n) = false := decide_eq_false (by omega)
  clear h1 h2
  go_enter Tryz.func215, Tryz.ntmps215
  go_wp2_with fail
  refine (HF.out _).mono ?_
  rintro e w1 ⟨rfl, hb1⟩
  go_wp2
  go_ret2
  exact ⟨by simp, hb1⟩
end Go.Proofs.YtfgdhcemidlnfaaGreatDoor
/- The walks of head.Text at the seventh version and of head.Tail. -/
namespace Go.Proofs.YtfgdhcemidlnfaaGreatDoor
open Go.RowKit Fo

theorem dig_seven : digU 7 = [55] := by unfold digU; rfl
theorem pad_seven : padW 1 7 = [55] := by unfold padW; rw [dig_seven]; rfl
set_option maxRecDepth 100000 in
set_option maxHeartbeats 400000 in
theorem head_in (w : World) (hT : TabP w) :
    Calls Tryz.prog 80 #[.int .i64 7] w fun e w' => e = .returned (.tuple #[.string ⟨headW.toArray⟩, .int .i64 0]) ∧ Below w.heap.size w w' := by
  have HP : Hid (∀ W, TabP W → Calls Tryz.prog 92 #[.int .i64 7, .int .i64 1] W fun e w' => e = .returned (.string ⟨#[55]⟩) ∧ Below W.heap.size W w') := Lib.hid (fun W hW => by have := pad_in 7 1 (by decide) (by decide) (by decide) (by rw [dig_seven]; decide) W hW; rw [pad_seven] at this; exact this)
  go_enter Tryz.func80, Tryz.ntmps80
  go_wp2_with fail
  refine (HP.out _ hT).mono ?_
  rintro e w1 ⟨rfl, hb1⟩
  go_wp2
  go_ret2
  exact ⟨by simp [headW, ByteArray.mk_append_mk], hb1⟩
set_option maxRecDepth 100000 in
set_option maxHeartbeats 400000 in
theorem tail_in (n : Nat) (hn : n ≤ 2147483647) (w : World) (hT : TabP w) :
    Calls Tryz.prog 53 #[.int .i64 n] w fun e w' => e = .returned (.string ⟨(tailW n).toArray⟩) ∧ Below w.heap.size w w' := by
  have HP := Lib.hid (fun W hW => pInt_in (n : Int) (by omega) (by omega) W hW)
  rw [show intV (n : Int) = .tuple #[.string ⟨(digI n).toArray⟩, .int .i64 0] by unfold intV; rw [if_neg (by omega)], show digI (n : Int) = digU n by unfold digI; rw [if_neg (by omega)]; rfl] at HP
  have hlD : (digU n).length ≤ 20 := Nat.le_trans (digU_len n 10 (Nat.lt_of_le_of_lt hn (by decide))) (by decide)
  obtain ⟨D, hD⟩ : ∃ D, digU n = D := ⟨_, rfl⟩
  have HR := Lib.hid (show tailW n = wStart ++ (D ++ wEof) by unfold tailW; rw [hD])
  rw [hD] at HP hlD
  have d0 : decide ((n : Int) < 0) = false := by simp
  have g1 : ¬ 9223372036854775807 < 10 + D.length := by omega
  have g2 : ¬ 9223372036854775807 < 10 + D.length + 1 := by omega
  have g3 : ¬ 9223372036854775807 < 10 + D.length + 1 + 5 := by omega
  have g4 : ¬ 9223372036854775807 < 10 + D.length + 1 + 5 + 1 := by omega
  clear hD hlD hn
  go_enter Tryz.func53, Tryz.ntmps53
  go_wp2_with fail
  refine (HP.out _ hT).mono ?_
  rintro e w1 ⟨rfl, hb1⟩
  go_wp2
  go_ret
  exact ⟨by rw [HR.out]; simp [wStart, wEof, ByteArray.mk_append_mk], hb1⟩
end Go.Proofs.YtfgdhcemidlnfaaGreatDoor
