/- The reference's reader of a mapping: a token's code; a token's text. -/
import Derived.Test.YtibffdaljmmdoaaGreatDoorCqB
set_option linter.all false
namespace Go.Proofs.YtibffdaljmmdoaaGreatDoor
open Go.RowKit Fo Go.Maps

theorem RS.setz {B r a n : Nat} {w : World} {s : ByteArray} {σ : CS} (h : RS B w r s a σ) : RS B (w.setCell ⟨r, 2, none⟩ (.int .i64 n)) r s a ⟨n, σ.told, σ.m⟩ ∧ Fq B w (w.setCell ⟨r, 2, none⟩ (.int .i64 n)) := by
  obtain ⟨v, h1, h2⟩ := h.held
  exact ⟨⟨h.base, h.sorted, h.many, h.told, v, h1.set2, mown_fq h2 (OneB.set _ _ _ _) h1.ne_map⟩, h1.frame h.base (.set _ _ _ _)⟩
theorem RS.alloc {B r a : Nat} {w : World} {s : ByteArray} {σ : CS} (h : RS B w r s a σ) (o : Go.Obj) : RS B (w.alloc o) r s a σ := h.below ((Below.refl _ _).alloc (Nat.le_refl _) _)
theorem RE.alloc {B r : Nat} {w : World} {k : Int} (h : RE B w r k) (o : Go.Obj) : RE B (w.alloc o) r k := h.below ((Below.refl _ _).alloc (Nat.le_refl _) _)
set_option maxRecDepth 100000 in
set_option maxHeartbeats 1000000 in
theorem rcode_err (B r : Nat) (k : Int) (k0 k1 k2 k3 : Int) (s4 : ByteArray) (w : World) (hE : RE B w r k) :
    Calls Tryz.prog 51 #[.pointer (some ⟨r, 0, none⟩), .agg #[.int .i64 k0, .int .i64 k1, .int .i64 k2, .int .i64 k3, .string s4]] w fun e w' => e = .returned (.int .i64 0) ∧ RE B w' r k ∧ Fq B w w' := by
  obtain ⟨hc5, hf5⟩ := hE.cell5
  have hlt := hE.lt
  have hk : (k != 0) = true := by simpa using hE.2.1
  have hE1 := Lib.hid (hE.alloc (.cells #[.int .i64 k0, .int .i64 k1, .int .i64 k2, .int .i64 k3, .string s4] 59))
  go_enter Tryz.func51, Tryz.ntmps51
  go_wp2
  go_ret
  exact ⟨rfl, hE1.out, (Fq.refl _ _).alloc _⟩
set_option maxRecDepth 100000 in
set_option maxHeartbeats 1000000 in
theorem rtext_err (B r : Nat) (k : Int) (k0 k1 k2 k3 : Int) (s4 : ByteArray) (w : World) (hE : RE B w r k) :
    Calls Tryz.prog 52 #[.pointer (some ⟨r, 0, none⟩), .agg #[.int .i64 k0, .int .i64 k1, .int .i64 k2, .int .i64 k3, .string s4]] w fun e w' => e = .returned (.string ⟨#[]⟩) ∧ RE B w' r k ∧ Fq B w w' := by
  obtain ⟨hc5, hf5⟩ := hE.cell5
  have hlt := hE.lt
  have hk : (k != 0) = true := by simpa using hE.2.1
  have hE1 := Lib.hid (hE.alloc (.cells #[.int .i64 k0, .int .i64 k1, .int .i64 k2, .int .i64 k3, .string s4] 59))
  go_enter Tryz.func52, Tryz.ntmps52
  go_wp2
  go_ret
  exact ⟨rfl, hE1.out, (Fq.refl _ _).alloc _⟩
/-- What a code turns. -/
def CodP (B r : Nat) (s : ByteArray) (a : Nat) (w : World) (R : Res (CS × Int)) (e : Ending) (w' : World) : Prop :=
  match R with
  | .good (σ, c) => e = .returned (.int .i64 c) ∧ RS B w' r s a σ ∧ Fq B w w'
  | .bad k => e = .returned (.int .i64 0) ∧ RE B w' r k ∧ Fq B w w'
set_option maxRecDepth 100000 in
set_option maxHeartbeats 1000000 in
theorem rcode_in (B r : Nat) (s : ByteArray) (a p q : Nat) (σ : CS) (t : Tok) (w : World) (hS : RS B w r s a σ) (htl : t.s.length ≤ 1000000) :
    Calls Tryz.prog 51 #[.pointer (some ⟨r, 0, none⟩), .agg #[.int .i64 t.kind, .int .i64 p, .int .i64 q, .int .i64 t.n, .string ⟨t.s.toArray⟩]] w (CodP B r s a w (codeC σ t)) := by
  obtain ⟨v, hR, hown⟩ := hS.held
  obtain ⟨_, _, hc2, _, _, hc5, hf⟩ := hR.six
  have hf2 := hf 2
  have hf5 := hf 5
  have hlt := hS.lt
  obtain ⟨z, hz⟩ : ∃ z, σ.size = z := ⟨_, rfl⟩
  rw [hz] at hc2
  obtain ⟨kd, ln, n, ts⟩ := t
  unfold codeC
  dsimp only at htl ⊢
  rw [hz]
  clear hR hown
  by_cases hk : kd = 3
  rotate_left
  · rw [if_neg (fun h => hk h.1)]
    have k1 : (kd != 3) = true := by simpa using hk
    clear hk
    have HF := Lib.hid (hS.fail (k := 3) (by decide))
    go_enter Tryz.func51, Tryz.ntmps51
    go_wp2
    go_ret
    exact ⟨rfl, HF.out.1.alloc _, HF.out.2.alloc _⟩
  subst hk
  rcases Nat.lt_or_ge 2 ts.length with hn | hn
  · rw [if_neg (by omega)]
    have d1 : ((ts.length : Int) != 1) = true := by simp; omega
    have d2 : ((ts.length : Int) != 2) = true := by simp; omega
    clear hn
    have HF := Lib.hid (hS.fail (k := 3) (by decide))
    go_enter Tryz.func51, Tryz.ntmps51
    go_wp2
    go_ret
    exact ⟨rfl, HF.out.1.alloc _, HF.out.2.alloc _⟩
  match ts, hn with
  | [], _ =>
    rw [if_neg (by simp)]
    have HF := Lib.hid (hS.fail (k := 3) (by decide))
    go_enter Tryz.func51, Tryz.ntmps51
    go_wp2
    go_ret
    exact ⟨rfl, HF.out.1.alloc _, HF.out.2.alloc _⟩
  | [b], _ =>
    by_cases h0 : z = 0 ∨ z = 1
    rotate_left
    · rw [if_neg (by simp; omega)]
      have d1 : ((z : Int) != 0) = true := by simp; omega
      have d2 : ((z : Int) != 1) = true := by simp; omega
      clear h0
      have HF := Lib.hid (hS.fail (k := 3) (by decide))
      go_enter Tryz.func51, Tryz.ntmps51
      go_wp2
      go_ret
      exact ⟨rfl, HF.out.1.alloc _, HF.out.2.alloc _⟩
    · rw [if_pos ⟨rfl, by simp, by simpa using h0⟩]
      have hbv : (beV [b] : Nat) = b.toNat := by simp [beV]
      have hbl := UInt8.toNat_lt b
      have HW := Lib.hid (show wrap64 (b.toNat : Int) = b.toNat from IntWalk.wrap64_in _ (by omega))
      have HZ := Lib.hid (hS.setz (n := 1))
      rcases h0 with rfl | rfl
      all_goals
        go_enter Tryz.func51, Tryz.ntmps51
        go_wp2
        go_ret
        exact ⟨by rw [hbv]; exact congrArg (fun x => Ending.returned (Value.int IntKind.i64 x)) HW.out, HZ.out.1.alloc _, HZ.out.2.alloc _⟩
  | [b, c], _ =>
    by_cases h0 : z = 0 ∨ z = 2
    rotate_left
    · rw [if_neg (by simp; omega)]
      have d1 : ((z : Int) != 0) = true := by simp; omega
      have d2 : ((z : Int) != 2) = true := by simp; omega
      clear h0
      have HF := Lib.hid (hS.fail (k := 3) (by decide))
      go_enter Tryz.func51, Tryz.ntmps51
      go_wp2
      go_ret
      exact ⟨rfl, HF.out.1.alloc _, HF.out.2.alloc _⟩
    · rw [if_pos ⟨rfl, by simp, by simpa using h0⟩]
      have hbv : (beV [b, c] : Nat) = 256 * b.toNat + c.toNat := by simp [beV]
      have HO : Hid (∀ W, Calls Tryz.prog 39 #[.string ⟨#[b, c]⟩, .int .i64 0] W fun e w' => e = .returned (.int .i64 ((256 * b.toNat + c.toNat : Nat) : Int)) ∧ Below W.heap.size W w') := Lib.hid (fun W => one_in ⟨#[b, c]⟩ 0 (by show 1 < 2; omega) (by show 2 ≤ _; omega) W)
      have HZ := Lib.hid (hS.setz (n := 2))
      rw [List.length_cons, List.length_cons, List.length_nil]
      rcases h0 with rfl | rfl
      all_goals
        go_enter Tryz.func51, Tryz.ntmps51
        go_wp2_with fail
        refine (HO.out _).mono ?_
        rintro e w1 ⟨rfl, hb1⟩
        have HH := Lib.hid (And.intro ((HZ.out.1.alloc _).below hb1) ((HZ.out.2.alloc _).trans (Fq.of_below hb1)))
        go_wp2
        go_ret
        exact ⟨by rw [hbv]; exact congrArg (fun x => Ending.returned (Value.int IntKind.i64 x)) (show 256 * (b.toNat : Int) + (c.toNat : Int) = _ by omega), HH.out.1, HH.out.2⟩
/-- What a text turns. -/
def TxtP (B r : Nat) (s : ByteArray) (a : Nat) (σ : CS) (w : World) (R : Res L) (e : Ending) (w' : World) : Prop :=
  match R with
  | .good x => e = .returned (.string ⟨x.toArray⟩) ∧ RS B w' r s a σ ∧ Fq B w w'
  | .bad k => e = .returned (.string ⟨#[]⟩) ∧ RE B w' r k ∧ Fq B w w'
set_option maxRecDepth 100000 in
set_option maxHeartbeats 1000000 in
theorem rtext_in (B r : Nat) (s : ByteArray) (a p q : Nat) (σ : CS) (t : Tok) (w : World) (hS : RS B w r s a σ) (htl : t.s.length ≤ 1000000) :
    Calls Tryz.prog 52 #[.pointer (some ⟨r, 0, none⟩), .agg #[.int .i64 t.kind, .int .i64 p, .int .i64 q, .int .i64 t.n, .string ⟨t.s.toArray⟩]] w (TxtP B r s a σ w (textC t)) := by
  obtain ⟨hc5, hf5⟩ := hS.cell5
  have hlt := hS.lt
  obtain ⟨kd, ln, n, ts⟩ := t
  unfold textC
  dsimp only at htl ⊢
  by_cases hk : kd = 3
  rotate_left
  · rw [if_neg hk]
    have k1 : (kd != 3) = true := by simpa using hk
    clear hk
    have HF := Lib.hid (hS.fail (k := 3) (by decide))
    go_enter Tryz.func52, Tryz.ntmps52
    go_wp2
    go_ret
    exact ⟨rfl, HF.out.1.alloc _, HF.out.2.alloc _⟩
  subst hk
  rw [if_pos rfl]
  have HU := Lib.hid (fun W => rutf_in ⟨ts.toArray⟩ (by show ts.toArray.size ≤ _; simp; omega) W)
  have hS1 := Lib.hid (hS.alloc (.cells #[.int .i64 3, .int .i64 p, .int .i64 q, .int .i64 n, .string ⟨ts.toArray⟩] 59))
  obtain ⟨U, hU⟩ : ∃ U, utfS ts = U := ⟨_, rfl⟩
  have hU2 : utfS (⟨ts.toArray⟩ : ByteArray).data.toList = U := by simpa using hU
  rw [hU2] at HU
  rw [hU]
  clear hU hU2
  cases U with
  | none =>
    go_enter Tryz.func52, Tryz.ntmps52
    go_wp2_with fail
    refine (HU.out _).mono ?_
    rintro e w1 ⟨rfl, hb1⟩
    have HS2 := Lib.hid (hS1.out.below hb1)
    have HF := Lib.hid (HS2.out.fail (k := 3) (by decide))
    have HQ := Lib.hid (((Fq.refl B w).alloc _).trans (Fq.of_below hb1))
    obtain ⟨d5, f5⟩ := HS2.out.cell5
    go_wp2
    go_ret
    exact ⟨rfl, HF.out.1, HQ.out.trans HF.out.2⟩
  | some x =>
    go_enter Tryz.func52, Tryz.ntmps52
    go_wp2_with fail
    refine (HU.out _).mono ?_
    rintro e w1 ⟨rfl, hb1⟩
    have HS2 := Lib.hid (hS1.out.below hb1)
    have HF := Lib.hid (HS2.out.fine)
    have HQ := Lib.hid (((Fq.refl B w).alloc _).trans (Fq.of_below hb1))
    obtain ⟨d5, f5⟩ := HS2.out.cell5
    go_wp2
    go_ret
    exact ⟨rfl, HF.out.1, HQ.out.trans HF.out.2⟩
end Go.Proofs.YtibffdaljmmdoaaGreatDoor
