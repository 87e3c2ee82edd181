/- Small laws of the walks; bytes of the call's own. -/
import Derived.Test.YtibffdaljmmdoaaGreatDoorRows
import Derived.Test.YtibffdaljmmdoaaGreatDoorGPlain
import Derived.Test.YtibffdaljmmdoaaGreatDoorShelfB
import Derived.WalkKit
import Derived.WalkSpells
import Derived.WalkLawsBesides
import Derived.Lib.Hide
import Derived.OneCell
import Derived.Deep.DeepFit
import Derived.Deep.LoopGhost
set_option linter.all false
/- The walks of package octet, the layer of byte classes: each function returns what the plain text says. -/
namespace Go.Proofs.YtibffdaljmmdoaaGreatDoor
open Go.RowKit Fo

theorem u8_all (p : UInt8 → Bool) (h : (List.range 256).all (fun n => p (UInt8.ofNat n)) = true) (c : UInt8) : p c = true := by
  have := List.all_eq_true.1 h c.toNat (List.mem_range.2 (UInt8.toNat_lt c))
  simpa using this
theorem white_ix (c : UInt8) : decide (0 ≤ Lib.indexByte [0, 9, 10, 12, 13, 32] c) = white c := by
  simpa using u8_all (fun c => decide (0 ≤ Lib.indexByte [0, 9, 10, 12, 13, 32] c) == white c) (by decide +kernel) c
theorem delim_ix (c : UInt8) : decide (0 ≤ Lib.indexByte [40, 41, 60, 62, 91, 93, 123, 125, 47, 37] c) = delim c := by
  simpa using u8_all (fun c => decide (0 ≤ Lib.indexByte [40, 41, 60, 62, 91, 93, 123, 125, 47, 37] c) == delim c) (by decide +kernel) c

theorem ret_bool {a b : Bool} (h : a = b) : Ending.returned (.bool a) = .returned (.bool b) := by rw [h]
theorem ret_int {k : IntKind} {a b : Int} (h : a = b) : Ending.returned (.int k a) = .returned (.int k b) := by rw [h]

set_option maxHeartbeats 400000 in
theorem white_any (c : UInt8) (w : World) :
    Calls Tryz.prog 116 #[.int .u8 c.toNat] w fun e w' => e = .returned (.bool (white c)) ∧ w' = w := by
  go_enter Tryz.func116, Tryz.ntmps116
  go_wp2_with (go_at_call 144; refine (Tryz.strings_IndexByte _ _ _).mono ?_; rintro e w' ⟨rfl, rfl⟩)
  go_ret
  exact ⟨ret_bool (by simpa using white_ix c), rfl⟩
set_option maxHeartbeats 400000 in
theorem delim_any (c : UInt8) (w : World) :
    Calls Tryz.prog 160 #[.int .u8 c.toNat] w fun e w' => e = .returned (.bool (delim c)) ∧ w' = w := by
  go_enter Tryz.func160, Tryz.ntmps160
  go_wp2_with (go_at_call 144; refine (Tryz.strings_IndexByte _ _ _).mono ?_; rintro e w' ⟨rfl, rfl⟩)
  go_ret
  exact ⟨ret_bool (by simpa using delim_ix c), rfl⟩
set_option maxHeartbeats 400000 in
theorem regular_any (c : UInt8) (w : World) :
    Calls Tryz.prog 145 #[.int .u8 c.toNat] w fun e w' => e = .returned (.bool (regular c)) ∧ w' = w := by
  go_enter Tryz.func145, Tryz.ntmps145
  go_wp2_with (first | (go_at_call 116; refine (white_any _ _).mono ?_; rintro e w' ⟨rfl, rfl⟩) | (go_at_call 160; refine (delim_any _ _).mono ?_; rintro e w' ⟨rfl, rfl⟩))
  all_goals go_ret
  all_goals exact ⟨ret_bool (by simp_all [regular]), rfl⟩
theorem u8k (c : UInt8) (n : Nat) (h : n < 256) : ((c.toNat : Int) == (n : Int)) = (c == UInt8.ofNat n) := by
  rw [Bool.eq_iff_iff]; simp only [beq_iff_eq, ← UInt8.toNat_inj, UInt8.toNat_ofNat_of_lt' (show n < UInt8.size from h)]; omega
set_option maxHeartbeats 400000 in
theorem ends_any (c : UInt8) (w : World) :
    Calls Tryz.prog 115 #[.int .u8 c.toNat] w fun e w' => e = .returned (.bool (eol c)) ∧ w' = w := by
  have h13 := u8k c 13 (by decide)
  have h10 := u8k c 10 (by decide)
  have H : Hid (eol c = (c == 13 || c == 10)) := rfl
  by_cases h : c = 13
  · subst h
    clear h13 h10
    go_enter Tryz.func115, Tryz.ntmps115
    go_wp2
    go_ret
    exact ⟨ret_bool (by decide), rfl⟩
  · have h1 : ((c.toNat : Int) == 13) = false := by rw [show (13 : Int) = ((13 : Nat) : Int) from rfl, h13]; simpa using h
    clear h13 h10
    go_enter Tryz.func115, Tryz.ntmps115
    go_wp2
    go_ret
    exact ⟨ret_bool (by rw [H.out, show (10 : Int) = ((10 : Nat) : Int) from rfl, u8k c 10 (by decide)]; simp [h]), rfl⟩
set_option maxHeartbeats 400000 in
theorem digit_any (c : Nat) (hc : c < 256) (w : World) :
    Calls Tryz.prog 119 #[.int .u8 c] w fun e w' => e = .returned (.int .i64 (digit c)) ∧ w' = w := by
  go_enter Tryz.func119, Tryz.ntmps119
  go_wp2
  all_goals go_ret
  all_goals exact ⟨ret_int (by unfold digit; repeat' (split <;> try omega)), rfl⟩

theorem white_yes (c : UInt8) (h : white c = true) (w : World) :
    Calls Tryz.prog 116 #[.int .u8 c.toNat] w fun e w' => e = .returned (.bool true) ∧ w' = w := h ▸ white_any c w
theorem white_no (c : UInt8) (h : white c = false) (w : World) :
    Calls Tryz.prog 116 #[.int .u8 c.toNat] w fun e w' => e = .returned (.bool false) ∧ w' = w := h ▸ white_any c w
theorem drop_get (s : ByteArray) (k : Nat) (h : k < s.size) : s.data.toList.drop k = s[k] :: s.data.toList.drop (k + 1) := by
  rw [List.drop_eq_getElem_cons (by simpa using h)]; rfl
theorem skipN_le (b : Bool) (l : L) : skipN b l ≤ l.length := by
  induction l generalizing b with
  | nil => cases b <;> simp [skipN]
  | cons c l ih =>
    cases b <;> simp only [skipN, List.length_cons]
    · have h1 := ih true; have h2 := ih false
      split
      · omega
      · split <;> omega
    · have := ih (!eol c); omega
theorem eq_yes {c : UInt8} {n : Nat} (hn : n < 256) (h : c = UInt8.ofNat n) : ((c.toNat : Int) == (n : Int)) = true := by rw [u8k c n hn]; simpa using h
theorem eq_no {c : UInt8} {n : Nat} (hn : n < 256) (h : ¬ c = UInt8.ofNat n) : ((c.toNat : Int) == (n : Int)) = false := by rw [u8k c n hn]; simpa using h
set_option maxHeartbeats 400000 in
theorem skip_in (s : ByteArray) (a : Nat) (ha : a ≤ s.size) (hs : s.size ≤ maxLen) (w : World) :
    Calls Tryz.prog 81 #[.string s, .int .i64 a] w fun e w' => e = .returned (.int .i64 (a + skipN false (s.data.toList.drop a) : Nat)) ∧ w' = w := by
  unfold maxLen at hs
  obtain ⟨T, hT⟩ : ∃ T, a + skipN false (s.data.toList.drop a) = T := ⟨_, rfl⟩
  rw [hT]
  have HT := Lib.hid hT; clear hT
  have hz0 : decide ((a : Int) < 0) = false := by simp
  have hz1 : decide (s.size < a) = false := by simp; omega
  go_enter Tryz.func81, Tryz.ntmps81
  go_wp2
  go_loop [1, 5] (fun p r => ∃ (k : Nat) (b : Bool), k ≤ s.size ∧ p = .int .i64 k ∧ r = .bool b ∧ Hid (k + skipN b (s.data.toList.drop k) = T)) (fun p _ => s.size - (intOf p).toNat)
  case atStart => exact ⟨a, false, ha, rfl, rfl, HT⟩
  case round =>
    obtain ⟨k, b, hk, rfl, rfl, H⟩ := hrel
    clear HT
    by_cases hlt : k < s.size
    · have H1 := H.out
      rw [drop_get s k hlt] at H1
      have H2 := Lib.hid H1; clear H1 H
      cases b
      · by_cases h37 : s[k] = 37
        · have h1 : ((s[k].toNat : Int) == 37) = true := eq_yes (n := 37) (by decide) h37
          have H37 := Lib.hid h37; clear h37
          go_wp2
          go_round
          case rel => exact ⟨k + 1, true, by omega, by go_num, rfl, by have := H2.out; rw [H37.out] at this; simp only [skipN, beq_self_eq_true, if_true] at this; show _ = _; omega⟩
          case measure => simp [intOf]; omega
        · have h1 : ((s[k].toNat : Int) == 37) = false := eq_no (n := 37) (by decide) h37
          have H37 := Lib.hid h37; clear h37
          cases hw : white s[k]
          · have HW := Lib.hid hw; clear hw
            go_wp2_with (go_at_call 116; refine (white_no _ HW.out _).mono ?_; rintro e w' ⟨rfl, rfl⟩)
            go_ret
            exact ⟨ret_int (by have := H2.out; simp [skipN, H37.out, HW.out] at this; omega), rfl⟩
          · have HW := Lib.hid hw; clear hw
            go_wp2_with (go_at_call 116; refine (white_yes _ HW.out _).mono ?_; rintro e w' ⟨rfl, rfl⟩)
            go_round
            case rel => exact ⟨k + 1, false, by omega, by go_num, rfl, by have := H2.out; simp [skipN, H37.out, HW.out] at this; show _ = _; omega⟩
            case measure => simp [intOf]; omega
      · go_wp2_with (go_at_call 115; refine (ends_any _ _).mono ?_; rintro e w' ⟨rfl, rfl⟩)
        go_round
        case rel => exact ⟨k + 1, !eol s[k], by omega, by go_num, rfl, by have := H2.out; simp only [skipN] at this; show _ = _; omega⟩
        case measure => simp [intOf]; omega
    · have hk2 : k = s.size := by omega
      subst hk2
      have H1 := Lib.hid (show s.size = T by have := H.out; rw [List.drop_eq_nil_of_le (by simp)] at this; cases b <;> simpa [skipN] using this)
      clear H
      go_wp2
      go_ret
      exact ⟨ret_int (by rw [H1.out]), rfl⟩

theorem extract_end (s : ByteArray) (a : Nat) : List.take (s.size - a) (List.drop a s.data.toList) = s.data.toList.drop a :=
  List.take_of_length_le (by simp)
set_option maxHeartbeats 400000 in
theorem begins_in (s p : ByteArray) (a : Nat) (ha : a ≤ s.size) (hs : s.size ≤ maxLen) (w : World) :
    Calls Tryz.prog 82 #[.string s, .string p, .int .i64 a] w fun e w' => e = .returned (.bool (Lib.hasPrefix (s.data.toList.drop a) p.data.toList)) ∧ w' = w := by
  unfold maxLen at hs
  have hz0 : decide (0 ≤ (a : Int)) = true := by simp
  have hz1 : decide (a ≤ s.size) = true := by simp; omega
  go_enter Tryz.func82, Tryz.ntmps82
  go_wp2_with (go_at_call 117; refine (Tryz.strings_HasPrefix _ _ _).mono ?_; rintro e w' ⟨rfl, rfl⟩)
  go_ret
  exact ⟨ret_bool (by rw [extract_end]), rfl⟩
theorem begins_as (s p : ByteArray) (a : Nat) (b : Bool) (h : Lib.hasPrefix (s.data.toList.drop a) p.data.toList = b) (ha : a ≤ s.size) (hs : s.size ≤ maxLen) (w : World) :
    Calls Tryz.prog 82 #[.string s, .string p, .int .i64 a] w fun e w' => e = .returned (.bool b) ∧ w' = w := h ▸ begins_in s p a ha hs w
theorem lineN_le (l : L) : lineN l ≤ l.length := by
  fun_induction lineN l <;> simp_all <;> omega
theorem lineN_cons (c : UInt8) (l : L) : lineN (c :: l) = if c = 10 then 1 else if c = 13 then (if l.head? = some 10 then 2 else 1) else lineN l + 1 := by
  by_cases h : c = 13
  · subst h
    cases l with
    | nil => simp [lineN, eol]
    | cons d l =>
      by_cases hd : d = 10
      · subst hd; simp [lineN]
      · rw [lineN]
        · simp [eol, hd]
        · intro d' h1 h2; simp_all
  · rw [lineN]
    · by_cases h2 : c = 10 <;> simp [eol, h, h2]
    · intro d h1 h2; simp_all
theorem crlf_at (s : ByteArray) (k : Nat) (h : k < s.size) (hc : s[k] = 13) : Lib.hasPrefix (s.data.toList.drop k) [13, 10] = ((s.data.toList.drop (k + 1)).head? == some 10) := by
  rw [drop_get s k h, hc]
  cases s.data.toList.drop (k + 1) with
  | nil => simp [Lib.hasPrefix]
  | cons d l => by_cases hd : d = 10 <;> simp [Lib.hasPrefix, List.isPrefixOf, hd, Bool.beq_comm]
set_option maxHeartbeats 400000 in
theorem line_in (s : ByteArray) (a : Nat) (ha : a ≤ s.size) (hs : s.size ≤ maxLen) (w : World) :
    Calls Tryz.prog 146 #[.string s, .int .i64 a] w fun e w' => e = .returned (.int .i64 (a + lineN (s.data.toList.drop a) : Nat)) ∧ w' = w := by
  have hs' := Lib.hid hs
  unfold maxLen at hs
  obtain ⟨T, hT⟩ : ∃ T, a + lineN (s.data.toList.drop a) = T := ⟨_, rfl⟩
  rw [hT]
  have HT := Lib.hid hT; clear hT
  have hz0 : decide ((a : Int) < 0) = false := by simp
  have hz1 : decide (s.size < a) = false := by simp; omega
  go_enter Tryz.func146, Tryz.ntmps146
  go_wp2
  go_loop [1] (fun p => ∃ (k : Nat), k ≤ s.size ∧ p = .int .i64 k ∧ Hid (k + lineN (s.data.toList.drop k) = T)) (fun p => s.size - (intOf p).toNat)
  case atStart => exact ⟨a, ha, rfl, HT⟩
  case round =>
    obtain ⟨k, hk, rfl, H⟩ := hrel
    clear HT
    by_cases hlt : k < s.size
    · have H1 := H.out
      rw [drop_get s k hlt, lineN_cons] at H1
      have H2 := Lib.hid H1; clear H1 H
      by_cases h10 : s[k] = 10
      · have h1 : ((s[k].toNat : Int) == 10) = true := eq_yes (n := 10) (by decide) h10
        have H10 := Lib.hid h10; clear h10
        go_wp2
        go_ret
        exact ⟨ret_int (by have := H2.out; simp [H10.out] at this; omega), rfl⟩
      · have h1 : ((s[k].toNat : Int) == 10) = false := eq_no (n := 10) (by decide) h10
        have H10 := Lib.hid h10; clear h10
        by_cases h13 : s[k] = 13
        · have h2 : ((s[k].toNat : Int) == 13) = true := eq_yes (n := 13) (by decide) h13
          have HC := crlf_at s k hlt h13
          have H13 := Lib.hid h13; clear h13
          by_cases hn : (s.data.toList.drop (k + 1)).head? = some 10
          · have hk1 : k + 1 < s.size := by
              apply Classical.byContradiction; intro h
              rw [List.drop_eq_nil_of_le (by simp; omega)] at hn; simp at hn
            rw [hn] at HC
            have HC2 := Lib.hid HC; have HN := Lib.hid hn; clear HC hn
            go_wp2_with (go_at_call 82; refine (begins_as _ _ _ true HC2.out (by omega) hs'.out _).mono ?_; rintro e w' ⟨rfl, rfl⟩)
            go_ret
            exact ⟨ret_int (by have := H2.out; rw [H13.out, if_neg (by decide), if_pos rfl, if_pos HN.out] at this; omega), rfl⟩
          · rw [beq_eq_false_iff_ne.2 hn] at HC
            have HC2 := Lib.hid HC; have HN := Lib.hid hn; clear HC hn
            go_wp2_with (go_at_call 82; refine (begins_as _ _ _ false HC2.out (by omega) hs'.out _).mono ?_; rintro e w' ⟨rfl, rfl⟩)
            go_ret
            exact ⟨ret_int (by have := H2.out; rw [H13.out, if_neg (by decide), if_pos rfl, if_neg HN.out] at this; omega), rfl⟩
        · have h2 : ((s[k].toNat : Int) == 13) = false := eq_no (n := 13) (by decide) h13
          have H13 := Lib.hid h13; clear h13
          go_wp2
          go_round
          case rel => exact ⟨k + 1, by omega, by go_num, by have := H2.out; simp [H10.out, H13.out] at this; show _ = _; omega⟩
          case measure => simp [intOf]; omega
    · have hk2 : k = s.size := by omega
      subst hk2
      have H1 := Lib.hid (show s.size = T by have := H.out; rw [List.drop_eq_nil_of_le (by simp)] at this; simpa [lineN] using this)
      clear H
      go_wp2
      go_ret
      exact ⟨ret_int (by rw [H1.out]), rfl⟩
end Go.Proofs.YtibffdaljmmdoaaGreatDoor
/- Small laws for the walks: bytes that a call gathers in a slice of its own, cells of blocks below, worlds. -/
namespace Go.Proofs.YtibffdaljmmdoaaGreatDoor
open Go.RowKit Fo

theorem Tryz.infoU8 : (Tryz.prog.info? 5).map (fun i => (i.zero, i.size, i.bytes)) = some (some (.int .u8 0), 1, 1) := by kernel_rfl

theorem bcell {W w1 : World} (hb : Below W.heap.size W w1) : (∀ b o, b < W.heap.size → w1.cell? ⟨b, o, none⟩ = W.cell? ⟨b, o, none⟩) ∧ (∀ b o, b < W.heap.size → w1.frozen? ⟨b, o, none⟩ = W.frozen? ⟨b, o, none⟩) :=
  ⟨fun b o h => hb.cell (p := ⟨b, o, none⟩) h, fun b o h => hb.frozen (p := ⟨b, o, none⟩) h⟩

theorem bcellB {B : Nat} {W w1 : World} (hb : Below B W w1) : (∀ b o, b < B → w1.cell? ⟨b, o, none⟩ = W.cell? ⟨b, o, none⟩) ∧ (∀ b o, b < B → w1.frozen? ⟨b, o, none⟩ = W.frozen? ⟨b, o, none⟩) :=
  ⟨fun b o h => hb.cell (p := ⟨b, o, none⟩) h, fun b o h => hb.frozen (p := ⟨b, o, none⟩) h⟩
theorem belowIter {B : Nat} {a w : World} (h : Below B a w) (hB : B ≤ w.heap.size) (s : ByteArray) (p : Nat) : Below B a (w.iter s p) := h.alloc hB _
theorem bT {B C : Nat} {a b c : World} (h : Below C b c) (k : Below B a b) (e : B ≤ C) : Below B a c := k.trans (h.mono e)
theorem belowDrewN {B : Nat} {a w : World} (h : Below B a w) (n : Nat) : Below B a (w.drewN n) := ⟨h.os, h.tape, h.output, h.size, h.block⟩

/-- The slice v is the call's own (its array lies in a block from B on) and holds the bytes l. -/
def ownB (w : World) (B : Nat) (v : Value) (l : L) : Prop := w.ownsRow B 5 1 v l.length (l.map fun c => .int .u8 c.toNat)
theorem ownB_nil (w : World) (B : Nat) : ownB w B (.slice none 0 0) [] := ⟨by simp, .inl ⟨rfl, rfl⟩⟩
theorem ownB_below {w w' : World} {B : Nat} {v : Value} {l : L} (h : ownB w B v l) (hb : Below w.heap.size w w') : ownB w' B v l :=
  World.ownsRow.kept h (row := none) ⟨hb.os, hb.tape, hb.output, hb.size, fun k hk _ => hb.block k hk⟩ (Classical.em _)
theorem ownB_alloc {w : World} {B : Nat} {v : Value} {l : L} (h : ownB w B v l) (o : Obj) : ownB (w.alloc o) B v l := World.ownsRow.alloc h o
theorem ownB_slice {w : World} {B : Nat} {v : Value} {l : L} (h : ownB w B v l) : ∃ p c, v = .slice p l.length c := by
  rcases h.2 with ⟨h1, h2⟩ | ⟨g, cap, cur, h1, _⟩
  · exact ⟨none, 0, by rw [h1, h2]⟩
  · exact ⟨_, _, h1⟩
theorem below_of_grown {w w' : World} {B : Nat} {v : Value} {n : Nat} {e : TypeId} {xs : List Value} (hown : w.ownsRow B e n v xs.length xs ∨ True) {row : Option Nat} (hg : w.grownBy w' row) (hB : B ≤ w.heap.size) (hr : ∀ k, row = some k → B ≤ k) : Below B w w' :=
  (Below.refl B w).grown hg hB hr
theorem own_base {w : World} {B : Nat} {e : TypeId} {s n : Nat} {v : Value} {xs : List Value} (h : w.ownsRow B e s v n xs) : ∀ k, v.ownBlock = some k → B ≤ k := by
  rcases h.2 with ⟨h1, _⟩ | ⟨g, cap, cur, h1, h2, _⟩
  · subst h1; intro k hk; simp [Value.ownBlock] at hk
  · subst h1; intro k hk; simp [Value.ownBlock] at hk; omega

theorem u8_back (n : Int) (h0 : 0 ≤ n) (h1 : n < 256) : ((UInt8.ofNat n.toNat).toNat : Int) = n := by
  simp only [UInt8.toNat_ofNat']; omega
/-- One byte is appended to bytes of the call's own. -/
theorem append1 {ops : Array Oper} {rest : List Oper} {o : Oper} {a : Act} {Q : Exit → Act → World → Prop} {w : World} (hgd : o.guard = none) (s x : Operand)
    (ho : o.op = .call { callee := .builtin .append, args := #[s, x], argTypes := #[41, 41] })
    (B : Nat) (v : Value) (l : L) (n : Int) (hown : ownB w B v l) (hs : a.eval s = v)
    (hx : a.eval x = .slice (some ⟨w.heap.size, 0, none⟩) 1 1) (hlen : l.length + 1 ≤ 140737488355328) (hB : B ≤ w.heap.size) (h0 : 0 ≤ n) (h1 : n < 256)
    (h : ∀ v' w', ownB w' B v' (l ++ [UInt8.ofNat n.toNat]) → Below B w w' → w.heap.size < w'.heap.size → wpList Tryz.prog ops Q rest (a.put o.dst v') w') :
    wpList Tryz.prog ops Q (o :: rest) a (w.alloc (.cells #[.int .u8 n] 5)) := by
  obtain ⟨i0, hi, hz0, hz1, hz2⟩ := info_parts Tryz.infoU8
  refine wpList_append_own _ hgd s x 41 ho B 5 i0 (.int .u8 0) 1 1 Tryz.underlying41 hi hz0 hz1 hz2 rfl (by decide) v l.length _ hs (hown.alloc _) ⟨w.heap.size, 0, none⟩ 1 1 [.int .u8 n] hx rfl ?_ ?_ ?_ ?_ ?_ ?_
  · intro j u hj
    have hj0 : j = 0 := by
      rcases j with _ | j
      · rfl
      · simp at hj
    subst hj0
    simp at hj; subst hj
    rw [show (⟨w.heap.size, 0, none⟩ : Addr).add 0 = ⟨w.heap.size, 0, none⟩ from rfl, World.cell?_alloc_at _ _ _ _ rfl]; rfl
  · intro u hu; simp at hu; subst hu; rfl
  · unfold maxLen; omega
  · omega
  · simp; omega
  · intro v' w' hown' hg _
    refine h v' w' ?_ (((Below.refl B w).alloc hB _).trans ((Below.refl B _).grown hg (by simp; omega) (own_base hown))) (by have := hg.size; simp at this; omega)
    have hn : (Value.int .u8 n) = .int .u8 ((UInt8.ofNat n.toNat).toNat : Int) := by
      rw [u8_back n h0 h1]
    rw [hn] at hown'
    unfold ownB
    simpa using hown'

theorem foldl_push (l : L) (r : ByteArray) : (l.map fun c => ((c.toNat : Nat) : Int)).foldl (fun (r : ByteArray) (n : Int) => r.push (UInt8.ofNat n.toNat)) r = ⟨r.data ++ l.toArray⟩ := by
  induction l generalizing r with
  | nil => simp
  | cons c l ih =>
    simp only [List.map_cons, List.foldl_cons]
    rw [ih]
    simp [ByteArray.push]
/-- string(v) of bytes of the call's own. -/
theorem convB {w : World} {B : Nat} {v : Value} {l : L} (h : ownB w B v l) : (Go.convert 41 9 v).run Tryz.prog w = .ok (.string ⟨l.toArray⟩) w := by
  rcases h.2 with ⟨h1, h2⟩ | ⟨g, cap, cur, h1, h2, h3, h4, h5, h6, h7⟩
  · have hl : l = [] := List.eq_nil_of_length_eq_zero h2
    subst hl; subst h1
    rw [run_convert_bytes_string w _ _ 5 _ _ _ Tryz.underlying41 Tryz.underlying5 Tryz.underlying9]
    rfl
  · subst h1
    rw [run_convert_bytes_string w _ _ 5 _ _ _ Tryz.underlying41 Tryz.underlying5 Tryz.underlying9]
    rw [run_bytesToString w _ _ _ (l.map fun c => (c.toNat : Int)), foldl_push]
    · show Result.ok (Value.string ⟨#[] ++ l.toArray⟩) w = _
      simp
    · have hc := run_loadCells_list (P := Tryz.prog) (w := w) ⟨g, 0, none⟩ (l.map fun c => Value.int .u8 c.toNat) (by
        intro j u hj
        have := World.ownsRow.cellAt (base := B) (e := 5) (size := 1) (g := g) (cap := cap) (w := w) (xs := l.map fun c => Value.int .u8 c.toNat) (n := l.length) ⟨h.1, .inr ⟨g, cap, cur, rfl, h2, h3, h4, h5, h6, h7⟩⟩ j (by
          have := (List.getElem?_eq_some_iff.1 hj).1; simpa using this)
        rw [hj] at this
        rw [← this]
        cases j <;> simp [Addr.add])
      simpa [List.map_map, Function.comp_def] using hc
end Go.Proofs.YtibffdaljmmdoaaGreatDoor
