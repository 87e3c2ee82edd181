/- The walks of lex's escape sequences. -/
import Derived.Test.YtpadlepdgnlgnaaGreatDoorName
set_option linter.all false
namespace Go.Proofs.YtpadlepdgnlgnaaGreatDoor
open Go.RowKit Fo

theorem lineN_pos (c : UInt8) (l : L) : 1 ≤ lineN (c :: l) := by
  rw [lineN_cons]; (repeat' split) <;> omega
set_option maxHeartbeats 400000 in
theorem end_yes (s : ByteArray) (a p : Nat) (hp : p < s.size) (hs : s.size ≤ maxLen) (h : eol s[p] = true) (w : World) :
    Calls Tryz.prog 82 #[.agg #[.string s, .int .i64 a], .int .i64 p] w fun e w' => e = .returned (.tuple #[.int .i64 (p + lineN (s.data.toList.drop p) : Nat), .bool true]) ∧ Below w.heap.size w w' := by
  have hs' := Lib.hid hs
  unfold maxLen at hs
  by_cases h13 : s[p] = 13
  · have t1 : ((s[p].toNat : Int) == 13) = true := eq_yes (n := 13) (by decide) h13
    clear h13 h
    go_enter Tryz.func82, Tryz.ntmps82
    go_wp2_with (go_at_call 105; refine (line_in _ _ (by omega) hs'.out _).mono ?_; rintro e w' ⟨rfl, rfl⟩)
    go_ret2
    exact ⟨by simp, (by repeat' (first | (with_reducible exact Below.refl _ _) | (with_reducible refine Below.drew ?_) | (with_reducible refine belowDrewN ?_ _) | (with_reducible refine belowIter ?_ ?_ _ _) | (with_reducible refine Below.setCell ?_ ?_ _) | (with_reducible refine Below.alloc ?_ ?_ _) | (with_reducible refine Below.trans ?_ (Below.mono hb4 ?_)) | (with_reducible refine Below.trans ?_ (Below.mono hb3 ?_)) | (with_reducible refine Below.trans ?_ (Below.mono hb2 ?_)) | (with_reducible refine Below.trans ?_ (Below.mono hb1 ?_)) | (with_reducible refine Below.trans ?_ (Below.mono hbr ?_)) | (with_reducible refine Below.trans ?_ (Below.mono hb ?_)) | (simp; done) | (simp; omega) | omega))⟩
  · have t1 : ((s[p].toNat : Int) == 13) = false := eq_no (n := 13) (by decide) h13
    have t2 : ((s[p].toNat : Int) == 10) = true := eq_yes (n := 10) (by decide) (by simp [eol] at h; simpa [h13] using h)
    clear h13 h
    go_enter Tryz.func82, Tryz.ntmps82
    go_wp2_with (go_at_call 105; refine (line_in _ _ (by omega) hs'.out _).mono ?_; rintro e w' ⟨rfl, rfl⟩)
    go_ret2
    exact ⟨by simp, (by repeat' (first | (with_reducible exact Below.refl _ _) | (with_reducible refine Below.drew ?_) | (with_reducible refine belowDrewN ?_ _) | (with_reducible refine belowIter ?_ ?_ _ _) | (with_reducible refine Below.setCell ?_ ?_ _) | (with_reducible refine Below.alloc ?_ ?_ _) | (with_reducible refine Below.trans ?_ (Below.mono hb4 ?_)) | (with_reducible refine Below.trans ?_ (Below.mono hb3 ?_)) | (with_reducible refine Below.trans ?_ (Below.mono hb2 ?_)) | (with_reducible refine Below.trans ?_ (Below.mono hb1 ?_)) | (with_reducible refine Below.trans ?_ (Below.mono hbr ?_)) | (with_reducible refine Below.trans ?_ (Below.mono hb ?_)) | (simp; done) | (simp; omega) | omega))⟩
set_option maxHeartbeats 400000 in
theorem end_no (s : ByteArray) (a p : Nat) (hp : p < s.size) (hs : s.size ≤ maxLen) (h : eol s[p] = false) (w : World) :
    Calls Tryz.prog 82 #[.agg #[.string s, .int .i64 a], .int .i64 p] w fun e w' => e = .returned (.tuple #[.int .i64 p, .bool false]) ∧ Below w.heap.size w w' := by
  unfold maxLen at hs
  have t1 : ((s[p].toNat : Int) == 13) = false := eq_no (n := 13) (by decide) (by intro h2; rw [h2] at h; simp [eol] at h)
  have t2 : ((s[p].toNat : Int) == 10) = false := eq_no (n := 10) (by decide) (by intro h2; rw [h2] at h; simp [eol] at h)
  clear h
  go_enter Tryz.func82, Tryz.ntmps82
  go_wp2
  go_ret2
  exact ⟨rfl, (by repeat' (first | (with_reducible exact Below.refl _ _) | (with_reducible refine Below.drew ?_) | (with_reducible refine belowDrewN ?_ _) | (with_reducible refine belowIter ?_ ?_ _ _) | (with_reducible refine Below.setCell ?_ ?_ _) | (with_reducible refine Below.alloc ?_ ?_ _) | (with_reducible refine Below.trans ?_ (Below.mono hb4 ?_)) | (with_reducible refine Below.trans ?_ (Below.mono hb3 ?_)) | (with_reducible refine Below.trans ?_ (Below.mono hb2 ?_)) | (with_reducible refine Below.trans ?_ (Below.mono hb1 ?_)) | (with_reducible refine Below.trans ?_ (Below.mono hbr ?_)) | (with_reducible refine Below.trans ?_ (Below.mono hb ?_)) | (simp; done) | (simp; omega) | omega))⟩

abbrev letters : L := [110, 114, 116, 98, 102]
theorem ix_as (c : UInt8) (k : Int) (h : Lib.indexByte letters c = k) (w : World) :
    Calls Tryz.prog 95 #[.string ⟨#[110, 114, 116, 98, 102]⟩, .int .u8 c.toNat] w fun e w' => e = .returned (.int .i64 k) ∧ w' = w := by
  have := Tryz.strings_IndexByte ⟨#[110, 114, 116, 98, 102]⟩ c.toNat w
  rw [show ((c.toNat : Int)).toNat.toUInt8 = c by simp, show (ByteArray.mk #[110, 114, 116, 98, 102]).data.toList = letters from rfl, h] at this
  exact this
def escO (c : UInt8) (x : Nat × Nat) : L × Nat := if x.2 = 0 then ([c], 1) else ([UInt8.ofNat x.1], x.2)
theorem esc_cases (c : UInt8) (l : L) :
    (c = 110 ∧ Lib.indexByte letters c = 0 ∧ esc (c :: l) = ([10], 1)) ∨ (c = 114 ∧ Lib.indexByte letters c = 1 ∧ esc (c :: l) = ([13], 1)) ∨ (c = 116 ∧ Lib.indexByte letters c = 2 ∧ esc (c :: l) = ([9], 1)) ∨
    (c = 98 ∧ Lib.indexByte letters c = 3 ∧ esc (c :: l) = ([8], 1)) ∨ (c = 102 ∧ Lib.indexByte letters c = 4 ∧ esc (c :: l) = ([12], 1)) ∨
    (Lib.indexByte letters c = -1 ∧ eol c = true ∧ esc (c :: l) = ([], lineN (c :: l))) ∨
    (Lib.indexByte letters c = -1 ∧ eol c = false ∧ esc (c :: l) = escO c (octN 3 0 0 (c :: l))) := by
  have hix : ∀ c : UInt8, (c == 110 || c == 114 || c == 116 || c == 98 || c == 102) = true ∨ Lib.indexByte letters c = -1 := by
    intro c
    have := u8_all (fun c => (c == 110 || c == 114 || c == 116 || c == 98 || c == 102) || (Lib.indexByte letters c == -1)) (by decide +kernel) c
    simpa using this
  by_cases h1 : c = 110
  · subst h1; left; exact ⟨rfl, by decide +kernel, by simp [esc]⟩
  by_cases h2 : c = 114
  · subst h2; right; left; exact ⟨rfl, by decide +kernel, by simp [esc]⟩
  by_cases h3 : c = 116
  · subst h3; right; right; left; exact ⟨rfl, by decide +kernel, by simp [esc]⟩
  by_cases h4 : c = 98
  · subst h4; right; right; right; left; exact ⟨rfl, by decide +kernel, by simp [esc]⟩
  by_cases h5 : c = 102
  · subst h5; right; right; right; right; left; exact ⟨rfl, by decide +kernel, by simp [esc]⟩
  have h6 : Lib.indexByte letters c = -1 := by
    rcases hix c with h | h
    · simp [h1, h2, h3, h4, h5] at h
    · exact h
  right; right; right; right; right
  cases he : eol c
  · right; exact ⟨h6, rfl, by unfold escO; simp [esc, h1, h2, h3, h4, h5, he]⟩
  · left; exact ⟨h6, rfl, by simp [esc, h1, h2, h3, h4, h5, he]⟩

set_option maxRecDepth 100000 in
set_option maxHeartbeats 1000000 in
theorem esc_letter (s : ByteArray) (a p : Nat) (hp : p < s.size) (hs : s.size ≤ 140737488355327) (k : Int) (x : L × Nat) (hk : k = 0 ∨ k = 1 ∨ k = 2 ∨ k = 3 ∨ k = 4) (hx : Lib.indexByte letters s[p] = k) (w : World) :
    Calls Tryz.prog 84 #[.agg #[.string s, .int .i64 a], .int .i64 p] w fun e w' => e = .returned (.tuple #[.string ⟨((if k = 0 then [10] else if k = 1 then [13] else if k = 2 then [9] else if k = 3 then [8] else [12]) : L).toArray⟩, .int .i64 (p + 1)]) ∧ Below w.heap.size w w' := by
  have hix := Lib.hid hx
  clear hx
  rcases hk with rfl | rfl | rfl | rfl | rfl
  all_goals
    go_enter Tryz.func84, Tryz.ntmps84
    go_wp2_with (go_at_call 95; refine (ix_as _ _ hix.out _).mono ?_; rintro e w' ⟨rfl, rfl⟩)
    go_ret2
    refine ⟨?_, (by repeat' (first | (with_reducible exact Below.refl _ _) | (with_reducible refine Below.drew ?_) | (with_reducible refine belowDrewN ?_ _) | (with_reducible refine belowIter ?_ ?_ _ _) | (with_reducible refine Below.setCell ?_ ?_ _) | (with_reducible refine Below.alloc ?_ ?_ _) | (with_reducible refine Below.trans ?_ (Below.mono hb4 ?_)) | (with_reducible refine Below.trans ?_ (Below.mono hb3 ?_)) | (with_reducible refine Below.trans ?_ (Below.mono hb2 ?_)) | (with_reducible refine Below.trans ?_ (Below.mono hb1 ?_)) | (with_reducible refine Below.trans ?_ (Below.mono hbr ?_)) | (with_reducible refine Below.trans ?_ (Below.mono hb ?_)) | (simp; done) | (simp; omega) | omega))⟩
    simp
  all_goals rfl

set_option maxRecDepth 100000 in
set_option maxHeartbeats 1000000 in
theorem esc_eol (s : ByteArray) (a p : Nat) (hp : p < s.size) (hs : s.size ≤ 140737488355327) (hx : Lib.indexByte letters s[p] = -1) (he : eol s[p] = true) (w : World) :
    Calls Tryz.prog 84 #[.agg #[.string s, .int .i64 a], .int .i64 p] w fun e w' => e = .returned (.tuple #[.string ⟨#[]⟩, .int .i64 (p + lineN (s.data.toList.drop p) : Nat)]) ∧ Below w.heap.size w w' := by
  have hm : Hid (s.size ≤ maxLen) := by unfold maxLen; show _ ≤ _; omega
  have hix := Lib.hid hx
  have hie := Lib.hid he
  clear hx he
  go_enter Tryz.func84, Tryz.ntmps84
  go_wp2_with (first | (go_at_call 95; refine (ix_as _ _ hix.out _).mono ?_; rintro e w' ⟨rfl, rfl⟩) | (go_at_call 82; refine (end_yes _ _ _ hp hm.out hie.out _).mono ?_; rintro e w1 ⟨rfl, hb⟩))
  go_ret2
  exact ⟨rfl, (by repeat' (first | (with_reducible exact Below.refl _ _) | (with_reducible refine Below.drew ?_) | (with_reducible refine belowDrewN ?_ _) | (with_reducible refine belowIter ?_ ?_ _ _) | (with_reducible refine Below.setCell ?_ ?_ _) | (with_reducible refine Below.alloc ?_ ?_ _) | (with_reducible refine Below.trans ?_ (Below.mono hb4 ?_)) | (with_reducible refine Below.trans ?_ (Below.mono hb3 ?_)) | (with_reducible refine Below.trans ?_ (Below.mono hb2 ?_)) | (with_reducible refine Below.trans ?_ (Below.mono hb1 ?_)) | (with_reducible refine Below.trans ?_ (Below.mono hbr ?_)) | (with_reducible refine Below.trans ?_ (Below.mono hb ?_)) | (simp; done) | (simp; omega) | omega))⟩

theorem octN_stop {k v n : Nat} {l : L} (h : k = 0 ∨ l = [] ∨ ∃ c l', l = c :: l' ∧ oct c = false) : octN k v n l = (v, n) := by
  rcases h with rfl | rfl | ⟨c, l', rfl, hc⟩
  · simp [octN]
  · cases k <;> simp [octN]
  · cases k <;> simp [octN, hc]
theorem octN_go {k v n : Nat} {c : UInt8} {l : L} (h : oct c = true) : octN (k + 1) v n (c :: l) = octN k (8 * v + (c.toNat - 48)) (n + 1) l := by simp [octN, h]
theorem oct_iff (c : UInt8) : oct c = true ↔ (48 ≤ (c.toNat : Int) ∧ (c.toNat : Int) ≤ 55) := by
  unfold oct; simp [UInt8.le_iff_toNat_le]; omega
theorem ext1 (s : ByteArray) (p : Nat) (hp : p < s.size) : s.extract p (p + 1) = ⟨#[s[p]]⟩ := by
  apply ByteArray.ext_iff.2
  apply Array.toList_inj.1
  rw [Lib.extract_data, drop_get s p hp]
  simp
theorem u8_mod (v : Nat) : UInt8.ofNat (v % 256) = UInt8.ofNat v := by
  apply UInt8.toNat_inj.1; simp
set_option maxRecDepth 100000 in
set_option maxHeartbeats 2000000 in
theorem esc_oct (s : ByteArray) (a p : Nat) (hp : p < s.size) (hs : s.size ≤ 140737488355327) (hx : Lib.indexByte letters s[p] = -1) (he : eol s[p] = false) (w : World) :
    Calls Tryz.prog 84 #[.agg #[.string s, .int .i64 a], .int .i64 p] w fun e w' => e = .returned (.tuple #[.string ⟨(escO s[p] (octN 3 0 0 (s.data.toList.drop p))).1.toArray⟩, .int .i64 (p + (escO s[p] (octN 3 0 0 (s.data.toList.drop p))).2 : Nat)]) ∧ Below w.heap.size w w' := by
  have hm : Hid (s.size ≤ maxLen) := by unfold maxLen; show _ ≤ _; omega
  have hix := Lib.hid hx
  have hie := Lib.hid he
  clear hx he
  obtain ⟨X, hX⟩ : ∃ X, octN 3 0 0 (s.data.toList.drop p) = X := ⟨_, rfl⟩
  rw [hX]
  have HX0 := Lib.hid hX; clear hX
  go_enter Tryz.func84, Tryz.ntmps84
  go_wp2_with (first | (go_at_call 95; refine (ix_as _ _ hix.out _).mono ?_; rintro e w' ⟨rfl, rfl⟩) | (go_at_call 82; refine (end_no _ _ _ hp hm.out hie.out _).mono ?_; rintro e w1 ⟨rfl, hb⟩; obtain ⟨hc, hf⟩ := bcell hb; have hz := hb.size; simp at hz))
  go_loop [9, 10] (fun n t => ∃ (v j : Nat), j ≤ 3 ∧ p + j ≤ s.size ∧ v < 8 ^ j ∧ n = .int .i64 v ∧ t = .int .i64 (p + j) ∧ Hid (octN (3 - j) v j (s.data.toList.drop (p + j)) = X)) (fun _ t => s.size - (intOf t).toNat)
  case atStart => exact ⟨0, 0, by omega, by omega, by decide, rfl, by go_num, HX0⟩
  case round =>
    obtain ⟨v, j, hj, hpj, hv, rfl, rfl, H⟩ := hrel
    have hv2 : v < 512 := Nat.lt_of_lt_of_le hv (Nat.le_trans (Nat.pow_le_pow_right (by decide) hj) (by decide))
    have HV := Lib.hid hv
    clear HX0 hv
    by_cases h1 : p + j < s.size
    · by_cases h2 : j < 3
      · by_cases h3 : 48 ≤ (s[p + j].toNat : Int)
        · by_cases h4 : (s[p + j].toNat : Int) ≤ 55
          · have HX := Lib.hid (show octN (3 - (j + 1)) (8 * v + (s[p + j].toNat - 48)) (j + 1) (s.data.toList.drop (p + j + 1)) = X by
              have := H.out
              rw [drop_get s _ h1, show 3 - j = (3 - (j + 1)) + 1 by omega, octN_go ((oct_iff _).2 ⟨h3, h4⟩)] at this; exact this)
            clear H
            go_wp2
            go_round
            case rel => exact ⟨8 * v + (s[p + j].toNat - 48), j + 1, by omega, by omega, by have := HV.out; rw [Nat.pow_succ]; omega, by congr 1; omega, by go_num, HX⟩
            case measure => simp [intOf]; omega
          · have hX : X = (v, j) := H.out.symm.trans (octN_stop (.inr (.inr ⟨_, _, drop_get s _ h1, by rw [Bool.eq_false_iff]; intro h; exact h4 ((oct_iff _).1 h).2⟩)))
            clear H HV
            by_cases hj0 : j = 0
            · subst hj0
              have HX := Lib.hid hX
              clear hX
              go_wp2
              go_ret2
              refine ⟨?_, (by repeat' (first | (with_reducible exact Below.refl _ _) | (with_reducible refine Below.drew ?_) | (with_reducible refine belowDrewN ?_ _) | (with_reducible refine belowIter ?_ ?_ _ _) | (with_reducible refine Below.setCell ?_ ?_ _) | (with_reducible refine Below.alloc ?_ ?_ _) | (with_reducible refine Below.trans ?_ (Below.mono hb4 ?_)) | (with_reducible refine Below.trans ?_ (Below.mono hb3 ?_)) | (with_reducible refine Below.trans ?_ (Below.mono hb2 ?_)) | (with_reducible refine Below.trans ?_ (Below.mono hb1 ?_)) | (with_reducible refine Below.trans ?_ (Below.mono hbr ?_)) | (with_reducible refine Below.trans ?_ (Below.mono hb ?_)) | (simp; done) | (simp; omega) | omega))⟩
              rw [HX.out]; simp [escO]; exact ext1 s p hp
            · skip
              have hgt : (p : Int) < p + j := by omega
              have HX := Lib.hid hX
              clear hX
              go_wp2_with fail
              rw [conv_one _ _ (by simp [isByte, go_sem])]
              go_wp2
              go_ret2
              refine ⟨?_, (by repeat' (first | (with_reducible exact Below.refl _ _) | (with_reducible refine Below.drew ?_) | (with_reducible refine belowDrewN ?_ _) | (with_reducible refine belowIter ?_ ?_ _ _) | (with_reducible refine Below.setCell ?_ ?_ _) | (with_reducible refine Below.alloc ?_ ?_ _) | (with_reducible refine Below.trans ?_ (Below.mono hb4 ?_)) | (with_reducible refine Below.trans ?_ (Below.mono hb3 ?_)) | (with_reducible refine Below.trans ?_ (Below.mono hb2 ?_)) | (with_reducible refine Below.trans ?_ (Below.mono hb1 ?_)) | (with_reducible refine Below.trans ?_ (Below.mono hbr ?_)) | (with_reducible refine Below.trans ?_ (Below.mono hb ?_)) | (simp; done) | (simp; omega) | omega))⟩
              rw [HX.out]; simp [escO, hj0, cellByte, go_sem]; exact u8_mod v
        · have hX : X = (v, j) := H.out.symm.trans (octN_stop (.inr (.inr ⟨_, _, drop_get s _ h1, by rw [Bool.eq_false_iff]; intro h; exact h3 ((oct_iff _).1 h).1⟩)))
          clear H HV
          by_cases hj0 : j = 0
          · subst hj0
            have HX := Lib.hid hX
            clear hX
            go_wp2
            go_ret2
            refine ⟨?_, (by repeat' (first | (with_reducible exact Below.refl _ _) | (with_reducible refine Below.drew ?_) | (with_reducible refine belowDrewN ?_ _) | (with_reducible refine belowIter ?_ ?_ _ _) | (with_reducible refine Below.setCell ?_ ?_ _) | (with_reducible refine Below.alloc ?_ ?_ _) | (with_reducible refine Below.trans ?_ (Below.mono hb4 ?_)) | (with_reducible refine Below.trans ?_ (Below.mono hb3 ?_)) | (with_reducible refine Below.trans ?_ (Below.mono hb2 ?_)) | (with_reducible refine Below.trans ?_ (Below.mono hb1 ?_)) | (with_reducible refine Below.trans ?_ (Below.mono hbr ?_)) | (with_reducible refine Below.trans ?_ (Below.mono hb ?_)) | (simp; done) | (simp; omega) | omega))⟩
            rw [HX.out]; simp [escO]; exact ext1 s p hp
          · skip
            have hgt : (p : Int) < p + j := by omega
            have HX := Lib.hid hX
            clear hX
            go_wp2_with fail
            rw [conv_one _ _ (by simp [isByte, go_sem])]
            go_wp2
            go_ret2
            refine ⟨?_, (by repeat' (first | (with_reducible exact Below.refl _ _) | (with_reducible refine Below.drew ?_) | (with_reducible refine belowDrewN ?_ _) | (with_reducible refine belowIter ?_ ?_ _ _) | (with_reducible refine Below.setCell ?_ ?_ _) | (with_reducible refine Below.alloc ?_ ?_ _) | (with_reducible refine Below.trans ?_ (Below.mono hb4 ?_)) | (with_reducible refine Below.trans ?_ (Below.mono hb3 ?_)) | (with_reducible refine Below.trans ?_ (Below.mono hb2 ?_)) | (with_reducible refine Below.trans ?_ (Below.mono hb1 ?_)) | (with_reducible refine Below.trans ?_ (Below.mono hbr ?_)) | (with_reducible refine Below.trans ?_ (Below.mono hb ?_)) | (simp; done) | (simp; omega) | omega))⟩
            rw [HX.out]; simp [escO, hj0, cellByte, go_sem]; exact u8_mod v
      · have hX : X = (v, j) := H.out.symm.trans (octN_stop (.inl (by omega)))
        clear H HV
        have hj0 : ¬ j = 0 := by omega
        have hgt : (p : Int) < p + j := by omega
        have HX := Lib.hid hX
        clear hX
        go_wp2_with fail
        rw [conv_one _ _ (by simp [isByte, go_sem])]
        go_wp2
        go_ret2
        refine ⟨?_, (by repeat' (first | (with_reducible exact Below.refl _ _) | (with_reducible refine Below.drew ?_) | (with_reducible refine belowDrewN ?_ _) | (with_reducible refine belowIter ?_ ?_ _ _) | (with_reducible refine Below.setCell ?_ ?_ _) | (with_reducible refine Below.alloc ?_ ?_ _) | (with_reducible refine Below.trans ?_ (Below.mono hb4 ?_)) | (with_reducible refine Below.trans ?_ (Below.mono hb3 ?_)) | (with_reducible refine Below.trans ?_ (Below.mono hb2 ?_)) | (with_reducible refine Below.trans ?_ (Below.mono hb1 ?_)) | (with_reducible refine Below.trans ?_ (Below.mono hbr ?_)) | (with_reducible refine Below.trans ?_ (Below.mono hb ?_)) | (simp; done) | (simp; omega) | omega))⟩
        rw [HX.out]; simp [escO, hj0, cellByte, go_sem]; exact u8_mod v
    · have hX : X = (v, j) := H.out.symm.trans (octN_stop (.inr (.inl (by rw [List.drop_eq_nil_of_le (by simp; omega)]))))
      clear H HV
      have hj0 : ¬ j = 0 := by omega
      have hgt : (p : Int) < p + j := by omega
      have HX := Lib.hid hX
      clear hX
      go_wp2_with fail
      rw [conv_one _ _ (by simp [isByte, go_sem])]
      go_wp2
      go_ret2
      refine ⟨?_, (by repeat' (first | (with_reducible exact Below.refl _ _) | (with_reducible refine Below.drew ?_) | (with_reducible refine belowDrewN ?_ _) | (with_reducible refine belowIter ?_ ?_ _ _) | (with_reducible refine Below.setCell ?_ ?_ _) | (with_reducible refine Below.alloc ?_ ?_ _) | (with_reducible refine Below.trans ?_ (Below.mono hb4 ?_)) | (with_reducible refine Below.trans ?_ (Below.mono hb3 ?_)) | (with_reducible refine Below.trans ?_ (Below.mono hb2 ?_)) | (with_reducible refine Below.trans ?_ (Below.mono hb1 ?_)) | (with_reducible refine Below.trans ?_ (Below.mono hbr ?_)) | (with_reducible refine Below.trans ?_ (Below.mono hb ?_)) | (simp; done) | (simp; omega) | omega))⟩
      rw [HX.out]; simp [escO, hj0, cellByte, go_sem]; exact u8_mod v
end Go.Proofs.YtpadlepdgnlgnaaGreatDoor
