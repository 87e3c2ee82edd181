/- The reference's reader of a mapping: the last unit of a text rises. -/
import Derived.Test.YtibffdaljmmdoaaGreatDoorCqD
import Derived.Test.YtibffdaljmmdoaaGreatDoorGWr
set_option linter.all false

namespace Go.Proofs.YtibffdaljmmdoaaGreatDoor
open Go.RowKit Fo Go.Maps

theorem unitsN_two : ∀ (pre : L) (p q : UInt8), pre.length % 2 = 0 → unitsN (pre ++ [p, q]) = unitsN pre ++ [256 * p.toNat + q.toNat]
  | [], p, q, _ => rfl
  | [a], p, q, h => by simp at h
  | a :: b :: l, p, q, h => by
    have := unitsN_two l p q (by simp at h; omega)
    rw [List.cons_append, List.cons_append, unitsN, this, unitsN]; rfl
theorem utf_two (pre : L) (U : Nat) (hU : U ≤ 65535) (h : pre.length % 2 = 0) : utfS (pre ++ [UInt8.ofNat (U / 256), UInt8.ofNat U]) = text16 (unitsN pre ++ [U]) := by
  unfold utfS
  rw [if_neg (by simp; omega), unitsN_two _ _ _ h]
  congr 3
  have h1 : (UInt8.ofNat (U / 256)).toNat = U / 256 := by simp; omega
  have h2 : (UInt8.ofNat U).toNat = U % 256 := by simp
  rw [h1, h2]; omega
theorem one_V (x : ByteArray) (pre : L) (p q : UInt8) (hx : x = ⟨(pre ++ [p, q]).toArray⟩) (hp : pre.length ≤ 1000000) (w : World) :
    Calls Tryz.prog 39 #[.string x, .int .i64 pre.length] w fun e w' => e = .returned (.int .i64 ((256 * p.toNat + q.toNat : Nat) : Int)) ∧ Below w.heap.size w w' := by
  subst hx
  have hz : (⟨(pre ++ [p, q]).toArray⟩ : ByteArray).size = pre.length + 2 := by show (pre ++ [p, q]).toArray.size = _; simp
  refine (one_in ⟨(pre ++ [p, q]).toArray⟩ pre.length (by rw [hz]; omega) (by rw [hz]; omega) w).mono ?_
  rintro e w' ⟨rfl, hb⟩
  have e1 : (⟨(pre ++ [p, q]).toArray⟩ : ByteArray)[pre.length]'(by rw [hz]; omega) = p := by
    show (pre ++ [p, q]).toArray[pre.length]'_ = p
    simp
  have e2 : (⟨(pre ++ [p, q]).toArray⟩ : ByteArray)[pre.length + 1]'(by rw [hz]; omega) = q := by
    show (pre ++ [p, q]).toArray[pre.length + 1]'_ = q
    simp
  rw [e1, e2]
  exact ⟨rfl, hb⟩
/-- What last says. -/
def LasP (B r : Nat) (s : ByteArray) (a : Nat) (σ : CS) (w : World) (k : Int) (e : Ending) (w' : World) : Prop :=
  e = .returned (.tuple #[]) ∧ Fq B w w' ∧ ((k = 0 ∧ RS B w' r s a σ) ∨ (k ≠ 0 ∧ RE B w' r k))
set_option maxRecDepth 100000 in
set_option maxHeartbeats 1000000 in
theorem rlast_none (B r : Nat) (s : ByteArray) (a : Nat) (σ : CS) (n : Int) (w : World) (hS : RS B w r s a σ) :
    Calls Tryz.prog 74 #[.pointer (some ⟨r, 0, none⟩), .string ⟨#[]⟩, .int .i64 n] w (LasP B r s a σ w 3) := by
  obtain ⟨hc5, hf5⟩ := hS.cell5
  have HF := Lib.hid (hS.fail (k := 3) (by decide))
  go_enter Tryz.func74, Tryz.ntmps74
  go_wp2
  go_end0
  exact ⟨rfl, HF.out.2, .inr ⟨by decide, HF.out.1⟩⟩
set_option maxRecDepth 100000 in
set_option maxHeartbeats 1000000 in
theorem rlast_in (B r : Nat) (s : ByteArray) (a : Nat) (σ : CS) (x : ByteArray) (pre : L) (p q : UInt8) (V n : Nat) (hx : x = ⟨(pre ++ [p, q]).toArray⟩) (hp : pre.length ≤ 1000000) (hV : V = 256 * p.toNat + q.toNat) (hV2 : V ≤ 65535) (hn : n ≤ 65535) (w : World) (hS : RS B w r s a σ) :
    Calls Tryz.prog 74 #[.pointer (some ⟨r, 0, none⟩), .string x, .int .i64 n] w (LasP B r s a σ w (if 65535 < V + n then 2 else 0)) := by
  have hsz : x.size = pre.length + 2 := by rw [hx]; show (pre ++ [p, q]).toArray.size = _; simp
  have HO := Lib.hid (fun W => one_V x pre p q hx hp W)
  rw [← hV] at HO
  obtain ⟨k, hk⟩ : ∃ k, pre.length = k := ⟨_, rfl⟩
  rw [hk] at HO hsz
  have d0 : decide ((x.size : Int) < 2) = false := decide_eq_false (by omega)
  have q0 : (x.size : Int) - 2 = (k : Int) := by omega
  have q1 : IntKind.i64.wrap ((x.size : Int) - 2) = (k : Int) := (IntWalk.i64_in _ (by omega)).trans q0
  have q2 : IntKind.i64.wrap (k : Int) = (k : Int) := IntWalk.i64_in _ (by omega)
  obtain ⟨U, hU⟩ : ∃ U, V + n = U := ⟨_, rfl⟩
  have u0 : (V : Int) + (n : Int) = (U : Int) := by omega
  have u1 : IntKind.i64.wrap (U : Int) = (U : Int) := IntWalk.i64_in _ (by omega)
  obtain ⟨hc5, hf5⟩ := hS.cell5
  rw [hU]
  by_cases h : 65535 < U
  · rw [if_pos h]
    have d1 : decide ((65535 : Int) < (U : Int)) = true := decide_eq_true (by omega)
    clear h hk hx hV hsz hU
    go_enter Tryz.func74, Tryz.ntmps74
    go_wp2_with fail
    refine (HO.out _).mono ?_
    rintro e w1 ⟨rfl, hb1⟩
    have HS1 := Lib.hid (hS.below hb1)
    have HF := Lib.hid (HS1.out.fail (k := 2) (by decide))
    obtain ⟨c5, f5⟩ := HS1.out.cell5
    go_wp2
    go_end0
    exact ⟨rfl, (Fq.of_below hb1).trans HF.out.2, .inr ⟨by decide, HF.out.1⟩⟩
  · rw [if_neg h]
    have d1 : decide ((65535 : Int) < (U : Int)) = false := decide_eq_false (by omega)
    clear h hk hx hV hsz hU
    go_enter Tryz.func74, Tryz.ntmps74
    go_wp2_with fail
    refine (HO.out _).mono ?_
    rintro e w1 ⟨rfl, hb1⟩
    have HS1 := Lib.hid (hS.below hb1)
    go_wp2
    go_end0
    exact ⟨rfl, Fq.of_below hb1, .inl ⟨rfl, HS1.out⟩⟩
/-- What raised says. -/
def RaiP (B r : Nat) (s : ByteArray) (a : Nat) (σ : CS) (w : World) (R : Option L) (e : Ending) (w' : World) : Prop :=
  match R with
  | some x => e = .returned (.string ⟨x.toArray⟩) ∧ RS B w' r s a σ ∧ Fq B w w'
  | none => e = .returned (.string ⟨#[]⟩) ∧ RE B w' r 2 ∧ Fq B w w'
set_option maxRecDepth 100000 in
set_option maxHeartbeats 1000000 in
theorem rraised_in (B r : Nat) (s : ByteArray) (a : Nat) (σ : CS) (x : ByteArray) (pre : L) (p q : UInt8) (V n : Nat) (hx : x = ⟨(pre ++ [p, q]).toArray⟩) (hp : pre.length ≤ 1000000) (he : pre.length % 2 = 0) (hV : V = 256 * p.toNat + q.toNat) (hV2 : V + n ≤ 65535) (w : World) (hS : RS B w r s a σ) :
    Calls Tryz.prog 75 #[.pointer (some ⟨r, 0, none⟩), .string x, .int .i64 n] w (RaiP B r s a σ w (text16 (unitsN pre ++ [V + n]))) := by
  have hUt := utf_two pre (V + n) hV2 he
  have hsz : x.size = pre.length + 2 := by rw [hx]; show (pre ++ [p, q]).toArray.size = _; simp
  have HO := Lib.hid (fun W => one_V x pre p q hx hp W)
  rw [← hV] at HO
  obtain ⟨k, hk⟩ : ∃ k, pre.length = k := ⟨_, rfl⟩
  rw [hk] at HO hsz
  have d0 : decide ((x.size : Int) < 2) = false := decide_eq_false (by omega)
  have q0 : (x.size : Int) - 2 = (k : Int) := by omega
  have q1 : IntKind.i64.wrap ((x.size : Int) - 2) = (k : Int) := (IntWalk.i64_in _ (by omega)).trans q0
  have q2 : IntKind.i64.wrap (k : Int) = (k : Int) := IntWalk.i64_in _ (by omega)
  obtain ⟨U, hU⟩ : ∃ U, V + n = U := ⟨_, rfl⟩
  have u0 : (V : Int) + (n : Int) = (U : Int) := by omega
  have u1 : IntKind.i64.wrap (U : Int) = (U : Int) := IntWalk.i64_in _ (by omega)
  obtain ⟨hc5, hf5⟩ := hS.cell5
  rw [hU] at hUt ⊢
  obtain ⟨T, hT⟩ : ∃ T, text16 (unitsN pre ++ [U]) = T := ⟨_, rfl⟩
  rw [hT] at hUt ⊢
  have d1 : decide ((65535 : Int) < (U : Int)) = false := decide_eq_false (by omega)
  have hU6 : U ≤ 65535 := by omega
  obtain ⟨b1, hb1⟩ : ∃ b, UInt8.ofNat (U / 256) = b := ⟨_, rfl⟩
  obtain ⟨b2, hb2⟩ : ∃ b, UInt8.ofNat U = b := ⟨_, rfl⟩
  rw [hb1, hb2] at hUt
  have hx2 : x.extract 0 k = ⟨pre.toArray⟩ := by
    rw [hx]; apply ByteArray.ext; simp [← hk]
  obtain ⟨Y, hY⟩ : ∃ Y : ByteArray, (⟨pre.toArray⟩ : ByteArray) ++ ⟨[b1, b2].toArray⟩ = Y := ⟨_, rfl⟩
  have hYd : Y.data.toList = pre ++ [b1, b2] := by rw [← hY, ByteArray.mk_append_mk]
  have HU := Lib.hid (fun W => rutf_in Y (by have h0 := congrArg List.length hYd; rw [List.length_append] at h0; simp at h0; omega) W)
  rw [hYd, hUt] at HU
  have m1 : ¬ 9223372036854775807 < k + 2 := by omega
  have m2 : ¬ 9223372036854775807 < pre.length + 2 := by omega
  have kx : k ≤ x.size := by omega
  have hcv2 := fun W => conv2 W ((U : Int) / 256) ((U : Int) % 256) b1 b2 (by rw [← hb1]; simp <;> omega) (by rw [← hb2]; simp) 2
  have i4 : (U : Int) / 256 < 256 := by omega
  have i5 : (U : Int) % 256 < 256 := by omega
  have i6 : (0 : Int) ≤ (U : Int) / 256 := by omega
  have i7 : (0 : Int) ≤ (U : Int) % 256 := by omega
  have t1 : (U : Int).tdiv 256 = (U : Int) / 256 := Int.tdiv_eq_ediv_of_nonneg (by omega)
  have t2 : (U : Int).tmod 256 = (U : Int) % 256 := Int.tmod_eq_emod_of_nonneg (by omega)
  have t3 : IntKind.i64.wrap ((U : Int) / 256) = (U : Int) / 256 := IntWalk.i64_in _ (by omega)
  have t4 : IntKind.i64.wrap ((U : Int) % 256) = (U : Int) % 256 := IntWalk.i64_in _ (by omega)
  have t5 : IntKind.u8.wrap ((U : Int) / 256) = (U : Int) / 256 := IntWalk.u8_in _ ⟨by omega, by omega⟩
  have t6 : IntKind.u8.wrap ((U : Int) % 256) = (U : Int) % 256 := IntWalk.u8_in _ ⟨by omega, by omega⟩
  have HX := Lib.hid hsz
  clear hk hx hV hsz hU hT hUt hYd hb1 hb2
  go_enter Tryz.func75, Tryz.ntmps75
  go_wp2_with fail
  refine (HO.out _).mono ?_
  rintro e w1 ⟨rfl, hbb⟩
  have HS1 := Lib.hid (hS.below hbb)
  have HB1 := Lib.hid (Fq.of_below (B := B) hbb)
  obtain ⟨c5, f5⟩ := HS1.out.cell5
  have hlt1 := HS1.out.lt
  clear hbb hc5 hf5 hS
  have hcv3 : (Go.convert 41 9 (.slice (some ⟨w1.heap.size, 0, none⟩) 2 2)).run Tryz.prog (w1.alloc (.cells #[.int .u8 ((U : Int) / 256), .int .u8 ((U : Int) % 256)] 5)).drew = .ok (.string ⟨[b1, b2].toArray⟩) (w1.alloc (.cells #[.int .u8 ((U : Int) / 256), .int .u8 ((U : Int) % 256)] 5)).drew := hcv2 w1.drew
  go_upto_region 8 with fail
  cases T with
  | none =>
    go_region_law (go_simp; go_at_call 18; refine (HU.out _).mono ?_; rintro e w2 ⟨rfl, hb2⟩)
    all_goals
      have hbw : Below w1.heap.size w1 w2 := (by repeat' (first | (with_reducible first | exact Below.refl _ _ | refine Below.drew ?_ | refine belowDrewN ?_ _ | refine belowIter ?_ ?_ _ _ | refine Below.setCell ?_ ?_ _ | refine Below.alloc ?_ ?_ _ | refine bT hb4 ?_ ?_ | refine bT hb3 ?_ ?_ | refine bT hb2 ?_ ?_ | refine bT hb1 ?_ ?_ | refine bT hbr ?_ ?_ | refine bT hb ?_ ?_) | (simp; done) | (simp; omega) | omega))
      have HS2 := Lib.hid (HS1.out.below hbw)
      have HF := Lib.hid (HS2.out.fail (k := 2) (by decide))
      have HB2 := Lib.hid ((HB1.out.trans (Fq.of_below hbw)).trans HF.out.2)
      obtain ⟨e5, ef5⟩ := HS2.out.cell5
      go_wp2
      go_ret
      exact ⟨rfl, HF.out.1, HB2.out⟩
  | some y =>
    go_region_law (go_simp; go_at_call 18; refine (HU.out _).mono ?_; rintro e w2 ⟨rfl, hb2⟩)
    all_goals
      have hbw : Below w1.heap.size w1 w2 := (by repeat' (first | (with_reducible first | exact Below.refl _ _ | refine Below.drew ?_ | refine belowDrewN ?_ _ | refine belowIter ?_ ?_ _ _ | refine Below.setCell ?_ ?_ _ | refine Below.alloc ?_ ?_ _ | refine bT hb4 ?_ ?_ | refine bT hb3 ?_ ?_ | refine bT hb2 ?_ ?_ | refine bT hb1 ?_ ?_ | refine bT hbr ?_ ?_ | refine bT hb ?_ ?_) | (simp; done) | (simp; omega) | omega))
      have HS2 := Lib.hid (HS1.out.below hbw)
      have HB2 := Lib.hid (HB1.out.trans (Fq.of_below hbw))
      go_wp2
      go_ret
      exact ⟨rfl, HS2.out, HB2.out⟩
end Go.Proofs.YtibffdaljmmdoaaGreatDoor
