/- The walks of octet.Unhex. -/
import Derived.Test.YtpadlepdgnlgnaaGreatDoorLexA
set_option linter.all false
namespace Go.Proofs.YtpadlepdgnlgnaaGreatDoor
open Go.RowKit Fo
theorem mk1 : ∀ w : World, (Instr.makeSlice 80 (.int .i64 0) (.int .i64 1)).run Tryz.prog w = .ok (.slice (some ⟨w.heap.size, 0, none⟩) 0 1) (w.alloc (.cells #[.int .u8 0] 5)) := fun _ => by kernel_rfl
set_option maxRecDepth 100000 in
set_option maxHeartbeats 400000 in
/-- Two hexadecimal digits. -/
theorem unhex_bad (s : ByteArray) (hsz : s.size = 2) (p0 : 0 < s.size) (p1 : 1 < s.size) (h : hexv s[0] < (0 : Int) ∨ hexv s[1] < (0 : Int)) (w : World) :
    Calls Tryz.prog 81 #[.string s] w fun e w' => e = .returned (.tuple #[.string ⟨#[]⟩, .int .i64 3]) ∧ Below w.heap.size w w' := by
  have hmk := mk1
  unfold hexv at h
  go_enter Tryz.func81, Tryz.ntmps81
  go_wp2
  refine wp_loop_rounds 1 ?_
  rw [rounds_succ]
  go_wp2
  go_quiet ((go_at_call 79; exact Calls.quiet_of_same (digit_any _ (UInt8.toNat_lt _) _)))
  go_wp2
  all_goals (try (exfalso; omega))

  all_goals go_ret2
  all_goals exact ⟨rfl, (by repeat' (first | (with_reducible exact Below.refl _ _) | (with_reducible refine Below.drew ?_) | (with_reducible refine belowDrewN ?_ _) | (with_reducible refine belowIter ?_ ?_ _ _) | (with_reducible refine Below.setCell ?_ ?_ _) | (with_reducible refine Below.alloc ?_ ?_ _) | (with_reducible refine Below.trans ?_ (Below.mono hb4 ?_)) | (with_reducible refine Below.trans ?_ (Below.mono hb3 ?_)) | (with_reducible refine Below.trans ?_ (Below.mono hb2 ?_)) | (with_reducible refine Below.trans ?_ (Below.mono hb1 ?_)) | (with_reducible refine Below.trans ?_ (Below.mono hbr ?_)) | (with_reducible refine Below.trans ?_ (Below.mono hb ?_)) | (simp; done) | (simp; omega) | omega))⟩
def cellByte : Option Value → UInt8
  | some (.int .u8 n) => UInt8.ofNat n.toNat
  | _ => 0
def isByte : Option Value → Bool
  | some (.int .u8 _) => true
  | _ => false
theorem conv_one (w : World) (g : Nat) (h : isByte (w.cell? ⟨g, 0, none⟩) = true) : (Go.convert 80 9 (.slice (some ⟨g, 0, none⟩) 1 1)).run Tryz.prog w = .ok (.string ⟨#[cellByte (w.cell? ⟨g, 0, none⟩)]⟩) w := by
  obtain ⟨n, hn⟩ : ∃ n, w.cell? ⟨g, 0, none⟩ = some (.int .u8 n) := by
    revert h; generalize w.cell? ⟨g, 0, none⟩ = x; intro h
    unfold isByte at h; split at h
    · exact ⟨_, rfl⟩
    · simp at h
  rw [run_convert_bytes_string w _ _ 5 _ _ _ Tryz.underlying80 Tryz.underlying5 Tryz.underlying9]
  rw [run_bytesToString w _ _ _ [n], hn]
  · rfl
  · have hc := run_loadCells_list (P := Tryz.prog) (w := w) ⟨g, 0, none⟩ [Value.int .u8 n] (by
      intro j u hj
      rcases j with _ | j
      · simp at hj; subst hj; exact hn
      · simp at hj)
    simpa using hc
theorem nib : ∀ d, d < 16 → ∀ e, e < 16 → bits BinOp.or IntKind.i64 (wrap64 ((d : Nat) * 16)) (e : Nat) % 256 = 16 * (d : Int) + e := by decide +kernel
theorem nib_int {d e : Int} (h0 : 0 ≤ d) (h1 : d < 16) (h2 : 0 ≤ e) (h3 : e < 16) : bits BinOp.or IntKind.i64 (wrap64 (d * 16)) e % 256 = 16 * d + e := by
  have := nib d.toNat (by omega) e.toNat (by omega)
  rwa [Int.toNat_of_nonneg h0, Int.toNat_of_nonneg h2] at this
theorem digit_lt (c : Nat) : digit c < 16 := by unfold digit; repeat' split <;> omega
set_option maxRecDepth 100000 in
set_option maxHeartbeats 400000 in
theorem unhex_good (s : ByteArray) (hsz : s.size = 2) (p0 : 0 < s.size) (p1 : 1 < s.size) (ha : (0 : Int) ≤ hexv s[0]) (hb : (0 : Int) ≤ hexv s[1]) (w : World) :
    Calls Tryz.prog 81 #[.string s] w fun e w' => e = .returned (.tuple #[.string ⟨#[UInt8.ofNat ((16 : Int) * hexv s[0] + hexv s[1]).toNat]⟩, .int .i64 0]) ∧ Below w.heap.size w w' := by
  have hmk := mk1
  have h0 : decide (digit s[0].toNat < 0) = false := by unfold hexv at ha; simpa using ha
  have h1 : decide (digit s[1].toNat < 0) = false := by unfold hexv at hb; simpa using hb
  unfold hexv at *
  go_enter Tryz.func81, Tryz.ntmps81
  go_wp2
  refine wp_loop_rounds 2 ?_
  rw [rounds_succ]
  go_wp2
  go_quiet ((go_at_call 79; exact Calls.quiet_of_same (digit_any _ (UInt8.toNat_lt _) _)))
  go_wp2_with fail
  rw [rounds_succ]
  go_wp2
  rw [conv_one _ _ (by simp [isByte, go_sem])]
  go_wp2
  go_ret2
  refine ⟨?_, (by repeat' (first | (with_reducible exact Below.refl _ _) | (with_reducible refine Below.drew ?_) | (with_reducible refine belowDrewN ?_ _) | (with_reducible refine belowIter ?_ ?_ _ _) | (with_reducible refine Below.setCell ?_ ?_ _) | (with_reducible refine Below.alloc ?_ ?_ _) | (with_reducible refine Below.trans ?_ (Below.mono hb4 ?_)) | (with_reducible refine Below.trans ?_ (Below.mono hb3 ?_)) | (with_reducible refine Below.trans ?_ (Below.mono hb2 ?_)) | (with_reducible refine Below.trans ?_ (Below.mono hb1 ?_)) | (with_reducible refine Below.trans ?_ (Below.mono hbr ?_)) | (with_reducible refine Below.trans ?_ (Below.mono hb ?_)) | (simp; done) | (simp; omega) | omega))⟩
  have hn := nib_int ha (digit_lt s[0].toNat) hb (digit_lt s[1].toNat)
  simp [cellByte, hn, go_sem]

theorem ex2 (s : ByteArray) (k : Nat) (h : k + 3 ≤ s.size) : (s.extract (k + 1) (k + 3)).size = 2 := by simp; omega
theorem ex2_get (s : ByteArray) (k j : Nat) (h : k + 3 ≤ s.size) (hj : j < (s.extract (k + 1) (k + 3)).size) (hj2 : k + 1 + j < s.size) : (s.extract (k + 1) (k + 3))[j] = s[k + 1 + j] := by
  exact ByteArray.getElem_extract ..
theorem hexAt_bad (s : ByteArray) (k : Nat) (h : k + 3 ≤ s.size) (hx : hexv s[k + 1] < (0 : Int) ∨ hexv s[k + 2] < (0 : Int)) (w : World) :
    Calls Tryz.prog 81 #[.string (s.extract (k + 1) (k + 3))] w fun e w' => e = .returned (.tuple #[.string ⟨#[]⟩, .int .i64 3]) ∧ Below w.heap.size w w' := by
  refine unhex_bad _ (ex2 s k h) (by rw [ex2 s k h]; decide) (by rw [ex2 s k h]; decide) ?_ w
  rw [ex2_get s k 0 h _ (by omega), ex2_get s k 1 h _ (by omega)]; exact hx
theorem hexAt_good (s : ByteArray) (k : Nat) (c : UInt8) (h : k + 3 ≤ s.size) (h1 : (0 : Int) ≤ hexv s[k + 1]) (h2 : (0 : Int) ≤ hexv s[k + 2]) (hc : UInt8.ofNat ((16 : Int) * hexv s[k + 1] + hexv s[k + 2]).toNat = c) (w : World) :
    Calls Tryz.prog 81 #[.string (s.extract (k + 1) (k + 3))] w fun e w' => e = .returned (.tuple #[.string ⟨#[c]⟩, .int .i64 0]) ∧ Below w.heap.size w w' := by
  have hA : (s.extract (k + 1) (k + 3))[0]'(by rw [ex2 s k h]; decide) = s[k + 1] := ex2_get s k 0 h _ (by omega)
  have hB : (s.extract (k + 1) (k + 3))[1]'(by rw [ex2 s k h]; decide) = s[k + 2] := ex2_get s k 1 h _ (by omega)
  have := unhex_good _ (ex2 s k h) (by rw [ex2 s k h]; decide) (by rw [ex2 s k h]; decide) (by rw [hA]; exact h1) (by rw [hB]; exact h2) w
  rw [hA, hB, hc] at this
  exact this
end Go.Proofs.YtpadlepdgnlgnaaGreatDoor
