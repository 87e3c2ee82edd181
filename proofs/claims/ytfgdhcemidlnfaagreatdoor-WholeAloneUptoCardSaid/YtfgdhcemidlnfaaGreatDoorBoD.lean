/- The walk of body.Text at a valid item. -/
import Derived.Test.YtfgdhcemidlnfaaGreatDoorGBo
import Derived.Deep.CutRange
import Derived.Deep.RegionHeld3
set_option linter.all false
namespace Go.Proofs.YtfgdhcemidlnfaaGreatDoor
open Go.RowKit Fo

theorem digI_small (n : Int) (h0 : -1000000 ≤ n) (h1 : n ≤ 1000000) : (digI n).length ≤ 11 := digI_le n (by omega) (by omega)
theorem join_step {c : UInt8} {a : L} {l : List L} (hc : regular c = true) (hr : ∀ x ∈ a, regular x = true) (hne : a ≠ []) : ∃ z, regular z = true ∧ joinW c (a :: l) = 32 :: (a ++ joinW z l) := by
  cases a with
  | nil => exact absurd rfl hne
  | cons x p =>
    refine ⟨(x :: p).getLast (by simp), hr _ (List.getLast_mem _), ?_⟩
    rw [joinW, hc, hr x (by simp)]
    simp
theorem join_first {a : L} {l : List L} (hr : ∀ x ∈ a, regular x = true) (hne : a ≠ []) : ∃ z, regular z = true ∧ joinW 32 (a :: l) = a ++ joinW z l := by
  cases a with
  | nil => exact absurd rfl hne
  | cons x p =>
    refine ⟨(x :: p).getLast (by simp), hr _ (List.getLast_mem _), ?_⟩
    rw [joinW, show (regular 32 || (32 : UInt8) == 47) = false by decide]
    simp
theorem head_join (num gen : Int) (o : Ob) (h1 : -1000000 ≤ num) (h2 : num ≤ 1000000) (h3 : -1000000 ≤ gen) (h4 : gen ≤ 1000000) : joinW 32 [digI num, digI gen, [111, 98, 106]] ++ [10] = headI ⟨num, gen, o⟩ := by
  obtain ⟨_, a2, a3⟩ := digI_ok num (by omega) (by omega)
  obtain ⟨_, b2, b3⟩ := digI_ok gen (by omega) (by omega)
  obtain ⟨z, hz, e1⟩ := join_first (l := [digI gen, [111, 98, 106]]) a2 a3
  obtain ⟨z2, hz2, e2⟩ := join_step (l := [[111, 98, 106]]) hz b2 b3
  obtain ⟨z3, _, e3⟩ := join_step (a := [111, 98, 106]) (l := []) hz2 (by decide) (by decide)
  rw [e1, e2, e3]
  simp [joinW, headI, wObjL]
set_option maxRecDepth 100000 in
set_option maxHeartbeats 4000000 in
theorem btext_in (S : Nat → Prop) (d : Nat) (num gen k n g : Int) (s : L) (p1 p2 : Option Addr) (m1 c1 m2 c2 : Nat) (o : Ob) (w : World)
    (h1 : 1 ≤ num) (h2 : num ≤ 8191) (h3 : 0 ≤ gen) (h4 : gen ≤ 65535) (hk : k ≠ 8)
    (ho : ObjAt S d w [.int .i64 k, .int .i64 n, .int .i64 g, .string ⟨s.toArray⟩, .slice p1 m1 c1, .slice p2 m2 c2] o) (hsm : smallO d o) (hS : ∀ b, S b → b < w.heap.size) (hc : checkB 24 o = 0) (hT : TabP w) (hkk : o.kind = k) (hbk : k ≠ 9 → bulkO 24 o ≤ 2000000) (hst : k = 9 → checkB 24 (lenO o) = 0 ∧ bulkO 24 (lenO o) ≤ 2000000 ∧ o.s.length ≤ 1000000000) (hno : o.n = n) (hgo : o.g = g) (hso : o.s = s) :
    Calls Tryz.prog 81 #[.agg #[.int .i64 num, .int .i64 gen, .int .i64 k, .int .i64 n, .int .i64 g, .string ⟨s.toArray⟩, .slice p1 m1 c1, .slice p2 m2 c2]] w fun e w' => ∃ t, itemW ⟨num, gen, o⟩ = .good t ∧ e = .returned (.tuple #[.string ⟨t.toArray⟩, .int .i64 0]) ∧ Below w.heap.size w w' := by
  obtain ⟨T, hT'⟩ : ∃ T : L, textW o = T := ⟨_, rfl⟩
  have HTT := Lib.hid hT'
  clear hT'
  have HTl := Lib.hid (show k ≠ 9 → T.length ≤ 1000000000 from fun h9 => by
    have h1 := textW_le (okO_of_check hc (by rw [hkk]; exact h9))
    rw [HTT.out] at h1
    have := hbk h9
    omega)
  have hlen1 : (digI num).length ≤ 100 := Nat.le_trans (digI_small num (by omega) (by omega)) (by decide)
  have hlen2 : (digI gen).length ≤ 100 := Nat.le_trans (digI_small gen (by omega) (by omega)) (by decide)
  have hJl : ∀ a b : L, (joinW 32 [a, b, [111, 98, 106]]).length ≤ a.length + b.length + 10 := fun a b => by
    have h1 := joinW_le 32 [a, b, [111, 98, 106]]
    simp [lenK] at h1 ⊢
    omega
  have HWT := Lib.hid (fun (h9 : k ≠ 9) (W : World) (hW : Below w.heap.size w W) => show Calls Tryz.prog 89 #[.agg #[.int .i64 k, .int .i64 n, .int .i64 g, .string ⟨s.toArray⟩, .slice p1 m1 c1, .slice p2 m2 c2]] W (fun e w' => e = .returned (.tuple #[.string ⟨T.toArray⟩, .int .i64 0]) ∧ Below W.heap.size W w') from by
    have hw := wText_in S d W _ o (ho.kept (fun b h => hW.block b (hS b h)) d) hsm (fun b h => Nat.lt_of_lt_of_le (hS b h) hW.size) (hT.below hW) (fun _ => hbk h9)
    have e : writeW o = .good T := by unfold writeW; rw [if_neg (by rw [hc]; simp), if_neg (by rw [hkk]; exact h9), HTT.out]
    rw [e] at hw
    exact hw)
  have hSET : k = 9 → ∀ W, Below w.heap.size w W → Calls Tryz.prog 48 #[.agg #[.int .i64 7, .int .i64 0, .int .i64 0, .string ⟨#[]⟩, .slice p1 m1 c1, .slice p2 m2 c2], .string ⟨#[76, 101, 110, 103, 116, 104]⟩, .agg #[.int .i64 2, .int .i64 (s.length : Nat), .int .i64 0, .string ⟨#[]⟩, .slice none 0 0, .slice none 0 0]] W (SetOut 24 W (lenO o)) := fun h9 W hW => by
    subst hkk hno hgo hso
    exact setL_in S d W o p1 p2 m1 c1 m2 c2 (ho.kept (fun b h => hW.block b (hS b h)) d) h9 hc (hst h9).1 (fun b h => Nat.lt_of_lt_of_le (hS b h) hW.size)
  have HWL := Lib.hid (fun (W : World) (hW : Below w.heap.size w W) (cs : List Value) (ho : ObjAt (fun b => b < W.heap.size) 24 W cs (lenO o)) => show checkB 24 (lenO o) = 0 → bulkO 24 (lenO o) ≤ 2000000 → Calls Tryz.prog 89 #[.agg cs.toArray] W (fun e w' => e = .returned (.tuple #[.string ⟨(textW (lenO o)).toArray⟩, .int .i64 0]) ∧ Below W.heap.size W w') from fun hcL hbL => by
    have hw := wText_in (fun b => b < W.heap.size) 24 W cs (lenO o) ho (okO_small _ _ (okO_of_check hcL (by rw [lenO_kind]; decide))) (fun b h => h) (hT.below hW) (fun _ => hbL)
    have e : writeW (lenO o) = .good (textW (lenO o)) := by unfold writeW; rw [if_neg (fun h => h hcL), if_neg (by rw [lenO_kind]; decide)]
    rw [e] at hw
    exact hw)
  have hmf : ∀ (fn : Fn) (first cap : Array Value) (w : World), (Instr.makeFunc fn first cap).run Tryz.prog w = .ok (.func fn first cap) w := fun _ _ _ _ => rfl
  have HCK := Lib.hid (fun (W : World) (hW : Below w.heap.size w W) => bcheck_in S d num gen k n g s p1 p2 m1 c1 m2 c2 o W h1 h2 h3 h4 hk (ho.kept (fun b h => hW.block b (hS b h)) d) hsm (fun b h => Nat.lt_of_lt_of_le (hS b h) hW.size) hc)
  go_enter_defers Tryz.func81, Tryz.ntmps81
  go_upto_region 2 with fail
  obtain ⟨w1, hw1⟩ : ∃ w1, (((w.alloc (.cells #[.int .i64 num, .int .i64 gen, .int .i64 k, .int .i64 n, .int .i64 g, .string ⟨s.toArray⟩, .slice p1 m1 c1, .slice p2 m2 c2] 50)).alloc (.cells #[.string ⟨#[]⟩] 9)).alloc (.cells #[.int .i64 0] 31)) = w1 := ⟨_, rfl⟩
  rw [hw1]
  have A0 : w1.heap[w.heap.size]? = some (.cells #[.int .i64 num, .int .i64 gen, .int .i64 k, .int .i64 n, .int .i64 g, .string ⟨s.toArray⟩, .slice p1 m1 c1, .slice p2 m2 c2] 50 (0, 0)) := by
    rw [← hw1, Below.heap_alloc _ _ _ (by simp; omega), Below.heap_alloc _ _ _ (by simp)]; exact heap_new_at _ _ _ rfl
  have A1 : w1.heap[w.heap.size + 1]? = some (.cells #[.string ⟨#[]⟩] 9 (0, 0)) := by
    rw [← hw1, Below.heap_alloc _ _ _ (by simp)]; exact heap_new_at _ _ _ (by simp)
  have A2 : w1.heap[w.heap.size + 1 + 1]? = some (.cells #[.int .i64 0] 31 (0, 0)) := by
    rw [← hw1]; exact heap_new_at _ _ _ (by simp)
  have hbw : Below w.heap.size w w1 := by rw [← hw1]; exact (by repeat' (first | (with_reducible first | exact Below.refl _ _ | refine Below.drew ?_ | refine belowDrewN ?_ _ | refine belowIter ?_ ?_ _ _ | refine Below.setCell ?_ ?_ _ | refine Below.alloc ?_ ?_ _ | refine bT hb4 ?_ ?_ | refine bT hb3 ?_ ?_ | refine bT hb2 ?_ ?_ | refine bT hb1 ?_ ?_ | refine bT hbr ?_ ?_ | refine bT hb ?_ ?_) | (simp; done) | (simp; omega) | omega))
  have hz1 : w1.heap.size = w.heap.size + 3 := by rw [← hw1]; simp
  clear hw1
  go_cut [] from 7 to 10 (fun wc => Below w1.heap.size w1 wc)
  case first =>
    obtain ⟨k0, k1, k2, k3, k4, k5, k6, k7⟩ := eight_in (show w1.drew.heap[w.heap.size]? = _ from A0)
    have HMI := Lib.hid (fun W => musti_yes num gen k n g s p1 p2 m1 c1 m2 c2 W)
    have HB0 := Lib.hid (show Below w.heap.size w w1.drew from hbw.drew)
    go_region_held3 (fun w' => w'.cell? ⟨w.heap.size, 0, none⟩ = some (.int .i64 num) ∧ w'.cell? ⟨w.heap.size, 1, none⟩ = some (.int .i64 gen) ∧ w'.cell? ⟨w.heap.size, 2, none⟩ = some (.int .i64 k) ∧ w'.cell? ⟨w.heap.size, 3, none⟩ = some (.int .i64 n) ∧ w'.cell? ⟨w.heap.size, 4, none⟩ = some (.int .i64 g) ∧ w'.cell? ⟨w.heap.size, 5, none⟩ = some (.string ⟨s.toArray⟩) ∧ w'.cell? ⟨w.heap.size, 6, none⟩ = some (.slice p1 m1 c1) ∧ w'.cell? ⟨w.heap.size, 7, none⟩ = some (.slice p2 m2 c2)) (go_keep)
      (first
        | (go_at_call 129; (with_reducible refine (HCK.out _ HB0.out).mono ?_); rintro e w2 ⟨rfl, hb⟩; have HB5 := Lib.hid ((show Below w1.heap.size w1 w1.drew from (Below.refl _ _).drew).trans hb); obtain ⟨k0, k1, k2, k3, k4, k5, k6, k7⟩ := eight_in ((HB5.out.block _ (by omega)).trans A0); clear hb)
        | (go_at_call 128; (with_reducible refine (HMI.out _).mono ?_); rintro e w3 ⟨⟨v, rfl⟩, hb⟩; have HB6 := Lib.hid (HB5.out.trans (hb.mono HB5.out.size)); obtain ⟨k0, k1, k2, k3, k4, k5, k6, k7⟩ := eight_in ((HB6.out.block _ (by omega)).trans A0); clear hb))
    all_goals go_wp2_with fail
    all_goals go_meet
    all_goals exact HB6.out
  case rest =>
    obtain ⟨w2, rfl⟩ : ∃ w2, w2 = wc := ⟨_, rfl⟩
    have hbw2 := hbw.trans (hcut.mono hbw.size)
    have B0 := (hcut.block _ (by omega)).trans A0
    have B1 := (hcut.block _ (by omega)).trans A1
    have B2 := (hcut.block _ (by omega)).trans A2
    have hz2 := hcut.size
    clear A0 A1 A2 hbw hcut HCK
    obtain ⟨Bd, hBd⟩ : ∃ Bd, w2.heap.size = Bd := ⟨_, rfl⟩
    go_wp2_with fail
    obtain ⟨w3, hw3⟩ : ∃ w3, w2.alloc (.cells #[.pointer none, .slice none 0 0] 100) = w3 := ⟨_, rfl⟩
    rw [hw3]
    have bl3 := bldB_fresh w2
    rw [hw3, hBd] at bl3
    have hb3 : Below w2.heap.size w2 w3 := by rw [← hw3]; exact (by repeat' (first | (with_reducible first | exact Below.refl _ _ | refine Below.drew ?_ | refine belowDrewN ?_ _ | refine belowIter ?_ ?_ _ _ | refine Below.setCell ?_ ?_ _ | refine Below.alloc ?_ ?_ _ | refine bT hb4 ?_ ?_ | refine bT hb3 ?_ ?_ | refine bT hb2 ?_ ?_ | refine bT hb1 ?_ ?_ | refine bT hbr ?_ ?_ | refine bT hb ?_ ?_) | (simp; done) | (simp; omega) | omega))
    have hz3 : w3.heap.size = Bd + 1 := by rw [← hw3]; simp [hBd]
    have C0 := (hb3.block _ (by omega)).trans B0
    have C1 := (hb3.block _ (by omega)).trans B1
    have C2 := (hb3.block _ (by omega)).trans B2
    have hbw3 := hbw2.trans (hb3.mono hbw2.size)
    rw [hBd] at hz2
    clear B0 B1 B2 hbw2 hw3 hb3 hBd
    obtain ⟨D1, hD1⟩ : ∃ D, digI num = D := ⟨_, rfl⟩
    obtain ⟨D2, hD2⟩ : ∃ D, digI gen = D := ⟨_, rfl⟩
    have hl1 := hlen1
    have hl2 := hlen2
    rw [hD1] at hl1
    rw [hD2] at hl2
    have HP1 := Lib.hid (fun W (hT : TabP W) => show Calls Tryz.prog 91 #[.int .i64 num] W (fun e w' => e = .returned (.tuple #[.string ⟨D1.toArray⟩, .int .i64 0]) ∧ Below W.heap.size W w') from by
      have := pInt_in num (by omega) (by omega) W hT
      unfold intV at this
      rw [if_neg (by omega), hD1] at this
      exact this)
    have HP2 := Lib.hid (fun W (hT : TabP W) => show Calls Tryz.prog 91 #[.int .i64 gen] W (fun e w' => e = .returned (.tuple #[.string ⟨D2.toArray⟩, .int .i64 0]) ∧ Below W.heap.size W w') from by
      have := pInt_in gen (by omega) (by omega) W hT
      unfold intV at this
      rw [if_neg (by omega), hD2] at this
      exact this)
    have HM1 := Lib.hid (fun W => musts_yes D1 W)
    have HM2 := Lib.hid (fun W => musts_yes D2 W)
    obtain ⟨J, hJ⟩ : ∃ J, joinW 32 [D1, D2, [111, 98, 106]] = J := ⟨_, rfl⟩
    have HHD := Lib.hid (show J ++ [10] = headI ⟨num, gen, o⟩ by rw [← hJ, ← hD1, ← hD2]; exact head_join num gen o (by omega) (by omega) (by omega) (by omega))
    have HITS := Lib.hid (show k = 9 → itemW ⟨num, gen, o⟩ = .good (J ++ 10 :: (textW (lenO o) ++ 10 :: (wStream ++ (s ++ (wEndstream ++ wEndobj))))) from fun h9 => by
      have e1 : J ++ 10 :: (textW (lenO o) ++ 10 :: (wStream ++ (s ++ (wEndstream ++ wEndobj)))) = headI ⟨num, gen, o⟩ ++ (textW (lenO o) ++ 10 :: (wStream ++ (o.s ++ (wEndstream ++ wEndobj)))) := by rw [← HHD.out, hso]; simp
      rw [e1]
      have hnb : numsB ⟨num, gen, o⟩ = true := by unfold numsB; simp only [Bool.and_eq_true, decide_eq_true_eq]; exact ⟨⟨⟨h1, h2⟩, h3⟩, h4⟩
      unfold itemW
      rw [hnb]
      dsimp only
      rw [if_neg (by decide), if_neg (fun h => h hc), if_neg (by rw [hkk]; exact hk), if_pos (by rw [hkk]; exact h9)]
      unfold setO
      rw [if_neg (by simp [dictB, Ob.kind]), if_neg (fun h => h (dict_chk hc (by rw [hkk]; exact h9))), if_neg (fun h => h (hst h9).1)]
      rfl)
    have HIT := Lib.hid (show k ≠ 9 → itemW ⟨num, gen, o⟩ = .good (J ++ 10 :: (T ++ [10, 101, 110, 100, 111, 98, 106, 10])) from fun h9 => by
      have e1 : J ++ 10 :: (T ++ [10, 101, 110, 100, 111, 98, 106, 10]) = headI ⟨num, gen, o⟩ ++ (textW o ++ 10 :: wEndobj) := by rw [← HHD.out, HTT.out]; simp [wEndobj]
      rw [e1]
      have hnb : numsB ⟨num, gen, o⟩ = true := by unfold numsB; simp only [Bool.and_eq_true, decide_eq_true_eq]; exact ⟨⟨⟨h1, h2⟩, h3⟩, h4⟩
      unfold itemW
      rw [hnb]
      dsimp only
      rw [if_neg (by decide), if_neg (fun h => h hc), if_neg (by rw [hkk]; exact hk), if_neg (by rw [hkk]; exact h9)])
    have HJn := Lib.hid (fun W (g : Nat) (hg : W.heap[g]? = some (.cells #[.string ⟨D1.toArray⟩, .string ⟨D2.toArray⟩, .string ⟨#[111, 98, 106]⟩] 9 (0, 0))) => show Calls Tryz.prog 130 #[.slice (some ⟨g, 0, none⟩) 3 3] W (fun e w' => e = .returned (.string ⟨J.toArray⟩) ∧ Below W.heap.size W w') from by
      have := join_in (fun b => b < W.heap.size) (.slice (some ⟨g, 0, none⟩) 3 3) [D1, D2, [111, 98, 106]] W (.inr ⟨g, 0, 3, rfl, lt_of_block hg, fun i hi => by
        simp only [World.cell?, hg]
        match i, hi with
        | 0, _ => rfl
        | 1, _ => rfl
        | 2, _ => rfl⟩) (fun b h => h) (by simp) (by rw [hJ]; have := hJl D1 D2; rw [hJ] at this; omega) (fun x hx => by simp at hx; rcases hx with rfl | rfl | rfl <;> first | omega | (simp))
      rw [hJ] at this
      exact this)
    have hTW := hT.below hbw3
    have hJL : J.length ≤ 210 := by have := hJl D1 D2; rw [hJ] at this; omega
    go_cut [] from 11 to 26 (fun wc => bldB wc Bd (J ++ [10]) ∧ Below Bd w3 wc)
    case first =>
      have hJL : J.length ≤ 210 := by have := hJl D1 D2; rw [hJ] at this; omega
      have HB5 := Lib.hid (show Below w3.heap.size w3 w3.drew from (Below.refl _ _).drew)
      obtain ⟨k0, k1, _, _, _, _, _, _⟩ := eight_in (show w3.drew.heap[w.heap.size]? = _ from C0)
      have hJ1 : ¬ 9223372036854775807 < J.length + 1 := by omega
      clear hD1 hD2 hJ hl1 hl2
      go_region_held3 (fun w' => w'.cell? ⟨w.heap.size, 0, none⟩ = some (.int .i64 num) ∧ w'.cell? ⟨w.heap.size, 1, none⟩ = some (.int .i64 gen)) (go_keep)
        (first
          | (go_at_call 91; (first | (with_reducible refine (HP1.out _ (hTW.below HB5.out)).mono ?_) | (with_reducible refine (HP2.out _ (hTW.below HB5.out)).mono ?_)); rintro e w4 ⟨rfl, hb⟩; replace HB5 := Lib.hid (HB5.out.trans (hb.mono HB5.out.size)); obtain ⟨k0, k1, _, _, _, _, _, _⟩ := eight_in ((HB5.out.block _ (by omega)).trans C0); clear hb)
          | (go_at_call 131; first | ((with_reducible refine (HM1.out _).mono ?_); rintro e w5 ⟨rfl, h5⟩; obtain rfl := h5.symm) | ((with_reducible refine (HM2.out _).mono ?_); rintro e w5 ⟨rfl, h5⟩; obtain rfl := h5.symm))
          | (go_at_call 130; (refine (HJn.out _ _ (heap_new_at _ _ _ rfl)).mono ?_); rintro e w6 ⟨rfl, hb⟩; replace HB5 := Lib.hid ((show Below w3.heap.size w3 _ from HB5.out.alloc HB5.out.size _).trans (hb.mono (by have := HB5.out.size; simp; omega))); obtain ⟨k0, k1, _, _, _, _, _, _⟩ := eight_in ((HB5.out.block _ (by omega)).trans C0); clear hb)
          | (go_at_call 52; (refine (bld_str Bd [] _ _ (bldB_below bl3 HB5.out) (by simp [ByteArray.size]; omega) (by have := HB5.out.size; omega)).mono ?_); rintro e w7 ⟨rfl, hbl, hb⟩; have HBL := Lib.hid hbl; have HBZ := Lib.hid ((HB5.out.mono (by omega)).trans hb); obtain ⟨k0, k1, _, _, _, _, _, _⟩ := eight_in ((HBZ.out.block _ (by omega)).trans C0); clear hbl hb))
      all_goals go_wp2_with fail
      all_goals go_meet
      all_goals exact ⟨by simpa using HBL.out, HBZ.out⟩
    case rest =>
      obtain ⟨w4, rfl⟩ : ∃ w4, w4 = wc := ⟨_, rfl⟩
      obtain ⟨bl4, hb4⟩ := hcut
      have D0 := (hb4.block _ (by omega)).trans C0
      have E1 := (hb4.block _ (by omega)).trans C1
      have E2 := (hb4.block _ (by omega)).trans C2
      have hbw4 := hbw3.trans (hb4.mono (by omega))
      have hz4 := hb4.size
      clear C0 C1 C2 hbw3 hb4 HP1 HP2 HM1 HM2 HJn bl3
      obtain ⟨k0, k1, k2, k3, k4, k5, k6, k7⟩ := eight_in D0
      by_cases h9 : k = 9
      · subst h9
        have HSL := Lib.hid (hSET rfl)
        have hsl : s.length ≤ 1000000000 := by rw [← hso]; exact (hst rfl).2.2
        have HST := Lib.hid (hst rfl)
        have HITS2 := Lib.hid (HITS.out rfl)
        clear hSET hst HITS
        go_wp2_with fail
        obtain ⟨w5, hw5⟩ : ∃ w5, w4.alloc (.cells #[.int .i64 9, .int .i64 n, .int .i64 g, .string ⟨s.toArray⟩, .slice p1 m1 c1, .slice p2 m2 c2] 26) = w5 := ⟨_, rfl⟩
        rw [hw5]
        have hb5 : Below w4.heap.size w4 w5 := by rw [← hw5]; exact (by repeat' (first | (with_reducible first | exact Below.refl _ _ | refine Below.drew ?_ | refine belowDrewN ?_ _ | refine belowIter ?_ ?_ _ _ | refine Below.setCell ?_ ?_ _ | refine Below.alloc ?_ ?_ _ | refine bT hb4 ?_ ?_ | refine bT hb3 ?_ ?_ | refine bT hb2 ?_ ?_ | refine bT hb1 ?_ ?_ | refine bT hbr ?_ ?_ | refine bT hb ?_ ?_) | (simp; done) | (simp; omega) | omega))
        have O5 : w5.heap[w4.heap.size]? = some (.cells #[.int .i64 9, .int .i64 n, .int .i64 g, .string ⟨s.toArray⟩, .slice p1 m1 c1, .slice p2 m2 c2] 26 (0, 0)) := by rw [← hw5]; exact heap_new_at _ _ _ rfl
        have hz5 : w5.heap.size = w4.heap.size + 1 := by rw [← hw5]; simp
        clear hw5 k0 k1 k2 k3 k4 k5 k6 k7
        obtain ⟨P, hP⟩ : ∃ P, lenO o = P := ⟨_, rfl⟩
        rw [hP] at HSL
        have HP := Lib.hid hP
        clear hP
        have hbw5' := hbw4.trans (hb5.mono hbw4.size)
        go_cut [] from 32 to 44 (fun wc => ∃ r1 f1 r2 f2, wc.heap[w4.heap.size]? = some (.cells #[.int .i64 P.kind, .int .i64 P.n, .int .i64 P.g, .string ⟨P.s.toArray⟩, .slice r1 P.keys.length f1, .slice r2 P.kids.length f2] 26 (0, 0)) ∧
          ObjAt (fun b => b < wc.heap.size) 24 wc (objCells P.kind P.n P.g P.s (.slice r1 P.keys.length f1) (.slice r2 P.kids.length f2)) P ∧ Below w4.heap.size w4 wc)
        case first =>
          obtain ⟨k0, k1, k2, k3, k4, k5, kf⟩ := six_of (show w5.drew.heap[w4.heap.size]? = _ from O5)
          have HB5 := Lib.hid (show Below w5.heap.size w5 w5.drew from (Below.refl _ _).drew)
          refine wp_region_noPanic ?_
          go_region_law (first
            | (go_simp; go_at_call 49; refine (vint_in _ _).mono ?_; rintro e w6 ⟨rfl, hb⟩; replace HB5 := Lib.hid (HB5.out.trans (hb.mono HB5.out.size)); obtain ⟨k0, k1, k2, k3, k4, k5, kf⟩ := six_of ((HB5.out.block _ (by omega)).trans O5); clear hb)
            | (go_simp; go_at_call 48; refine (HSL.out _ (hbw5'.trans (HB5.out.mono hbw5'.size))).mono ?_; rintro e w7 ⟨r1, f1, r2, f2, rfl, hO7, hb⟩; have HO7 := Lib.hid (hO7.weaken (S' := fun b => w4.heap.size < b) (fun b h _ => by have := HB5.out.size; omega) _); replace HB5 := Lib.hid (HB5.out.trans (hb.mono HB5.out.size)); obtain ⟨k0, k1, k2, k3, k4, k5, kf⟩ := six_of ((HB5.out.block _ (by omega)).trans O5); clear hb hO7)
            | (go_simp; go_at_call 132; refine (musto_yes _ _ _ _ _ _ _ _ _ _ _).mono ?_; rintro e w8 ⟨rfl, hb⟩; have HO8 := Lib.hid (HO7.out.grow (S' := fun b => w4.heap.size < b ∧ b < w8.heap.size) (w' := w8) (fun b h1 h2 => ⟨⟨h1, Nat.lt_of_lt_of_le h2 hb.size⟩, hb.block b h2⟩)); replace HB5 := Lib.hid (HB5.out.trans (hb.mono HB5.out.size)); have Z8 := Lib.hid ((HB5.out.block _ (by omega)).trans O5); obtain ⟨k0, k1, k2, k3, k4, k5, kf⟩ := six_of ((HB5.out.block _ (by omega)).trans O5); clear hb))
          all_goals refine NoPanic.normal ?_
          all_goals go_wp2_with fail
          all_goals go_meet
          all_goals exact ⟨r1, f1, r2, f2, set_six Z8.out, HO8.out.grow (fun b h1 h2 => ⟨by simpa using h1.2, (set6_grown _ _ 0 1 2 3 4 5 _ _ _ _ _ _).block b h2 (by simp; omega)⟩), ((hb5.trans (HB5.out.mono (by omega))).grown (set6_grown _ _ 0 1 2 3 4 5 _ _ _ _ _ _) (by have := HB5.out.size; omega) (fun k h => by cases h; omega))⟩
        case rest =>
          obtain ⟨wd, rfl⟩ : ∃ wd, wd = wc := ⟨_, rfl⟩
          obtain ⟨r1, f1, r2, f2, OO, hO, hb6⟩ := hcut
          have hbw5 := hbw4
          have bl5 := bl4
          have D0 := (hb6.block _ (by omega)).trans D0
          have E1 := (hb6.block _ (by omega)).trans E1
          have E2 := (hb6.block _ (by omega)).trans E2
          have hbw6 := hbw5.trans (hb6.mono (by omega))
          have hz6 := hb6.size
          have bl6 := bldB_below bl5 hb6
          clear hb6 bl5 hbw5
          have HW6 := HWL.out wd hbw6 _ (by rw [HP.out]; exact hO) HST.out.1 HST.out.2.1
          obtain ⟨T2, hT2⟩ : ∃ T2, textW (lenO o) = T2 := ⟨_, rfl⟩
          have hT2l : (textW (lenO o)).length ≤ 1000000000 := by
            have h1 := textW_le (okO_of_check HST.out.1 (by rw [lenO_kind]; decide))
            have := HST.out.2.1
            omega
          rw [hT2] at HW6 hT2l
          have HIT2 := HITS2.out
          rw [hT2] at HIT2
          have HI2 := Lib.hid HIT2
          clear hT2 HIT2 HITS2 HSL HST
          unfold objCells at HW6
          have y1 : T2.length + 1 ≤ 9223372036854775807 := by omega
          have y2 : s.length + 7 ≤ 9223372036854775807 := by omega
          have y3 : 7 + s.length ≤ 9223372036854775807 := by omega
          have y4 : 7 + s.length + 11 ≤ 9223372036854775807 := by omega
          obtain ⟨k0, k1, k2, k3, k4, k5, kf⟩ := six_of OO
          go_wp2_with fail
          refine HW6.mono ?_
          rintro e w7 ⟨rfl, hb7⟩
          clear k0 k1 k2 k3 k4 k5 kf OO HW6
          have D0 := (hb7.block _ (by omega)).trans D0
          have E1 := (hb7.block _ (by omega)).trans E1
          have E2 := (hb7.block _ (by omega)).trans E2
          have hbw7 := hbw6.trans (hb7.mono (by omega))
          have hz7 := hb7.size
          have bl7 := bldB_below bl6 hb7
          clear hb7 bl6 hbw6
          go_wp2_with fail
          refine (musts_yes T2 _).mono ?_
          rintro e w8 ⟨rfl, hw8⟩
          obtain rfl := hw8.symm
          go_wp2_with fail
          refine (bld_str Bd (J ++ [10]) _ _ bl7 ?hl (by omega)).mono ?_
          case hl =>
            simp only [List.length_append, ByteArray.size_append]
            show J.length + 1 + (T2.length + 1) ≤ _
            omega
          rintro e w8 ⟨rfl, bl8, hb8⟩
          have D0 := (hb8.block _ (by omega)).trans D0
          have E1 := (hb8.block _ (by omega)).trans E1
          have E2 := (hb8.block _ (by omega)).trans E2
          have hbw8 := hbw7.trans (hb8.mono (by omega))
          have hz8 := hb8.size
          clear hb8 hbw7
          obtain ⟨k0, k1, k2, k3, k4, k5, k6, k7⟩ := eight_in D0
          go_wp2_with fail
          refine (bld_str Bd _ _ _ bl8 ?hl2 (by omega)).mono ?_
          case hl2 =>
            simp only [List.length_append, ByteArray.size_append, ByteArray.data_append, Array.toList_append]
            show J.length + 1 + (T2.length + 1) + (7 + s.length + 11) ≤ _
            omega
          rintro e w9 ⟨rfl, bl9, hb9⟩
          clear k0 k1 k2 k3 k4 k5 k6 k7
          have D0 := (hb9.block _ (by omega)).trans D0
          have E1 := (hb9.block _ (by omega)).trans E1
          have E2 := (hb9.block _ (by omega)).trans E2
          have hbw9 := hbw8.trans (hb9.mono (by omega))
          have hz9 := hb9.size
          clear hb9 hbw8
          go_wp2_with fail
          refine (bld_str Bd _ _ _ bl9 ?hl3 (by omega)).mono ?_
          case hl3 =>
            simp only [List.length_append, ByteArray.size_append, ByteArray.data_append, Array.toList_append]
            show J.length + 1 + (T2.length + 1) + (7 + s.length + 11) + 7 ≤ _
            omega
          rintro e wa ⟨rfl, bla, hba⟩
          have D0 := (hba.block _ (by omega)).trans D0
          have E1 := (hba.block _ (by omega)).trans E1
          have E2 := (hba.block _ (by omega)).trans E2
          have hbwa := hbw9.trans (hba.mono (by omega))
          have hza := hba.size
          clear hba hbw9
          go_wp2_with fail
          refine (bld_get Bd _ _ bla (by omega)).mono ?_
          rintro e wb ⟨rfl, hbb⟩
          have D0 := (hbb.block _ (by omega)).trans D0
          have E1 := (hbb.block _ (by omega)).trans E1
          have E2 := (hbb.block _ (by omega)).trans E2
          have hbwb := hbwa.trans (hbb.mono (by omega))
          have hzb := hbb.size
          clear hbb hbwa
          have e0 : wb.cell? ⟨w.heap.size + 1, 0, none⟩ = some (.string ⟨#[]⟩) := by simp [World.cell?, E1]
          have ef : wb.frozen? ⟨w.heap.size + 1, 0, none⟩ = false := by simp [World.frozen?, E1]
          have g0 : wb.cell? ⟨w.heap.size + 1 + 1, 0, none⟩ = some (.int .i64 0) := by simp [World.cell?, E2]
          have gf : wb.frozen? ⟨w.heap.size + 1 + 1, 0, none⟩ = false := by simp [World.frozen?, E2]
          go_wp2
          have f1 : ((wb.setCell ⟨w.heap.size + 1, 0, none⟩ (.string ⟨(J ++ 10 :: (T2 ++ 10 :: 115 :: 116 :: 114 :: 101 :: 97 :: 109 :: 10 :: (s ++ [10, 101, 110, 100, 115, 116, 114, 101, 97, 109, 10, 101, 110, 100, 111, 98, 106, 10]))).toArray⟩)).setCell ⟨w.heap.size + 1 + 1, 0, none⟩ (.int .i64 0)).cell? ⟨w.heap.size + 1, 0, none⟩ = some (.string ⟨(J ++ 10 :: (T2 ++ 10 :: 115 :: 116 :: 114 :: 101 :: 97 :: 109 :: 10 :: (s ++ [10, 101, 110, 100, 115, 116, 114, 101, 97, 109, 10, 101, 110, 100, 111, 98, 106, 10]))).toArray⟩) := by
            exact (World.cell?_of_block (a := ⟨w.heap.size + 1, 0, none⟩) (Below.heap_setCell _ _ _ _ (by show w.heap.size + 1 ≠ w.heap.size + 1 + 1; omega))).trans (World.cell?_setCell_same _ _ _ e0)
          have f2 : ((wb.setCell ⟨w.heap.size + 1, 0, none⟩ (.string ⟨(J ++ 10 :: (T2 ++ 10 :: 115 :: 116 :: 114 :: 101 :: 97 :: 109 :: 10 :: (s ++ [10, 101, 110, 100, 115, 116, 114, 101, 97, 109, 10, 101, 110, 100, 111, 98, 106, 10]))).toArray⟩)).setCell ⟨w.heap.size + 1 + 1, 0, none⟩ (.int .i64 0)).cell? ⟨w.heap.size + 1 + 1, 0, none⟩ = some (.int .i64 0) := by
            exact World.cell?_setCell_same _ _ _ ((World.cell?_of_block (a := ⟨w.heap.size + 1 + 1, 0, none⟩) (Below.heap_setCell _ _ _ _ (by show w.heap.size + 1 + 1 ≠ w.heap.size + 1; omega))).trans g0)
          refine leaves_cons (f := 126) (args := #[.pointer (some ⟨w.heap.size + 1 + 1, 0, none⟩), .pointer (some ⟨w.heap.size + 1, 0, none⟩)]) (by simp) (by simp [go_sem]) ?_
          refine (btext1_idle _ _ _ f2).mono ?_
          rintro e u' w'' ⟨rfl, rfl, rfl⟩
          simp [Leaves, settle, results, Tryz.results81, go_sem, f1, f2]
          exact ⟨_, HI2.out, rfl, (hbwb.setCell (by show w.heap.size ≤ w.heap.size + 1; omega) _).setCell (by show w.heap.size ≤ w.heap.size + 1 + 1; omega) _⟩
      · have d9 : (k == 9) = false := by simpa using h9
        have hTl := HTl.out h9
        have y1 : T.length + 1 ≤ 9223372036854775807 := by omega
        go_wp2_with fail
        obtain ⟨w5, hw5⟩ : ∃ w5, w4.alloc (.cells #[.int .i64 k, .int .i64 n, .int .i64 g, .string ⟨s.toArray⟩, .slice p1 m1 c1, .slice p2 m2 c2] 26) = w5 := ⟨_, rfl⟩
        rw [hw5]
        have hb5 : Below w4.heap.size w4 w5 := by rw [← hw5]; exact (by repeat' (first | (with_reducible first | exact Below.refl _ _ | refine Below.drew ?_ | refine belowDrewN ?_ _ | refine belowIter ?_ ?_ _ _ | refine Below.setCell ?_ ?_ _ | refine Below.alloc ?_ ?_ _ | refine bT hb4 ?_ ?_ | refine bT hb3 ?_ ?_ | refine bT hb2 ?_ ?_ | refine bT hb1 ?_ ?_ | refine bT hbr ?_ ?_ | refine bT hb ?_ ?_) | (simp; done) | (simp; omega) | omega))
        have D0 := (hb5.block _ (by omega)).trans D0
        have E1 := (hb5.block _ (by omega)).trans E1
        have E2 := (hb5.block _ (by omega)).trans E2
        have hbw5 := hbw4.trans (hb5.mono (by omega))
        have hz5 := hb5.size
        have bl5 := bldB_below bl4 hb5
        clear hb5 bl4 hbw4
        clear hw5 k0 k1 k2 k3 k4 k5 k6 k7
        refine (HWT.out h9 w5 hbw5).mono ?_
        rintro e w6 ⟨rfl, hb6⟩
        have D0 := (hb6.block _ (by omega)).trans D0
        have E1 := (hb6.block _ (by omega)).trans E1
        have E2 := (hb6.block _ (by omega)).trans E2
        have hbw6 := hbw5.trans (hb6.mono (by omega))
        have hz6 := hb6.size
        have bl6 := bldB_below bl5 hb6
        clear hb6 bl5 hbw5
        go_wp2_with fail
        refine (musts_yes T _).mono ?_
        rintro e w7 ⟨rfl, hw7⟩
        obtain rfl := hw7.symm
        go_wp2_with fail
        refine (bld_str Bd (J ++ [10]) _ _ bl6 ?hl (by omega)).mono ?_
        case hl =>
          simp only [List.length_append, ByteArray.size_append]
          show J.length + 1 + (T.length + 1) ≤ _
          omega
        rintro e w7 ⟨rfl, bl7, hb7⟩
        have D0 := (hb7.block _ (by omega)).trans D0
        have E1 := (hb7.block _ (by omega)).trans E1
        have E2 := (hb7.block _ (by omega)).trans E2
        have hbw7 := hbw6.trans (hb7.mono (by omega))
        have hz7 := hb7.size
        clear hb7 hbw6
        obtain ⟨k0, k1, k2, k3, k4, k5, k6, k7⟩ := eight_in D0
        go_wp2_with fail
        refine (bld_str Bd _ _ _ bl7 ?hl (by omega)).mono ?_
        case hl =>
          simp only [List.length_append, ByteArray.size_append, ByteArray.data_append, Array.toList_append]
          show J.length + 1 + (T.length + 1) + 7 ≤ _
          omega
        rintro e w8 ⟨rfl, bl8, hb8⟩
        clear k0 k1 k2 k3 k4 k5 k6 k7
        have D0 := (hb8.block _ (by omega)).trans D0
        have E1 := (hb8.block _ (by omega)).trans E1
        have E2 := (hb8.block _ (by omega)).trans E2
        have hbw8 := hbw7.trans (hb8.mono (by omega))
        have hz8 := hb8.size
        clear hb8 hbw7
        go_wp2_with fail
        refine (bld_get Bd _ _ bl8 (by omega)).mono ?_
        rintro e w9 ⟨rfl, hb9⟩
        have D0 := (hb9.block _ (by omega)).trans D0
        have E1 := (hb9.block _ (by omega)).trans E1
        have E2 := (hb9.block _ (by omega)).trans E2
        have hbw9 := hbw8.trans (hb9.mono (by omega))
        have hz9 := hb9.size
        clear hb9 hbw8
        have e0 : w9.cell? ⟨w.heap.size + 1, 0, none⟩ = some (.string ⟨#[]⟩) := by simp [World.cell?, E1]
        have ef : w9.frozen? ⟨w.heap.size + 1, 0, none⟩ = false := by simp [World.frozen?, E1]
        have g0 : w9.cell? ⟨w.heap.size + 1 + 1, 0, none⟩ = some (.int .i64 0) := by simp [World.cell?, E2]
        have gf : w9.frozen? ⟨w.heap.size + 1 + 1, 0, none⟩ = false := by simp [World.frozen?, E2]
        go_wp2
        have f1 : ((w9.setCell ⟨w.heap.size + 1, 0, none⟩ (.string ⟨(J ++ 10 :: (T ++ [10, 101, 110, 100, 111, 98, 106, 10])).toArray⟩)).setCell ⟨w.heap.size + 1 + 1, 0, none⟩ (.int .i64 0)).cell? ⟨w.heap.size + 1, 0, none⟩ = some (.string ⟨(J ++ 10 :: (T ++ [10, 101, 110, 100, 111, 98, 106, 10])).toArray⟩) := by
          exact (World.cell?_of_block (a := ⟨w.heap.size + 1, 0, none⟩) (Below.heap_setCell _ _ _ _ (by show w.heap.size + 1 ≠ w.heap.size + 1 + 1; omega))).trans (World.cell?_setCell_same _ _ _ e0)
        have f2 : ((w9.setCell ⟨w.heap.size + 1, 0, none⟩ (.string ⟨(J ++ 10 :: (T ++ [10, 101, 110, 100, 111, 98, 106, 10])).toArray⟩)).setCell ⟨w.heap.size + 1 + 1, 0, none⟩ (.int .i64 0)).cell? ⟨w.heap.size + 1 + 1, 0, none⟩ = some (.int .i64 0) := by
          exact World.cell?_setCell_same _ _ _ ((World.cell?_of_block (a := ⟨w.heap.size + 1 + 1, 0, none⟩) (Below.heap_setCell _ _ _ _ (by show w.heap.size + 1 + 1 ≠ w.heap.size + 1; omega))).trans g0)
        refine leaves_cons (f := 126) (args := #[.pointer (some ⟨w.heap.size + 1 + 1, 0, none⟩), .pointer (some ⟨w.heap.size + 1, 0, none⟩)]) (by simp) (by simp [go_sem]) ?_
        refine (btext1_idle _ _ _ f2).mono ?_
        rintro e u' w'' ⟨rfl, rfl, rfl⟩
        simp [Leaves, settle, results, Tryz.results81, go_sem, f1, f2]
        exact ⟨_, HIT.out h9, rfl, (hbw9.setCell (by show w.heap.size ≤ w.heap.size + 1; omega) _).setCell (by show w.heap.size ≤ w.heap.size + 1 + 1; omega) _⟩
end Go.Proofs.YtfgdhcemidlnfaaGreatDoor
