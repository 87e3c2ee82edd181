/- The reference's reader of a mapping: a row whose last unit rises. -/
import Derived.Test.YtibffdaljmmdoaaGreatDoorCqE
set_option linter.all false
namespace Go.Proofs.YtibffdaljmmdoaaGreatDoor
open Go.RowKit Fo Go.Maps

theorem box_five {B b : Nat} {w w' : World} {v0 v1 v2 v3 v4 : Value} (h : w.heap[b]? = some (.cells #[v0, v1, v2, v3, v4] 59 (0, 0))) (hf : Fq B w w') :
    w'.cell? ⟨b, 0, none⟩ = some v0 ∧ w'.cell? ⟨b, 1, none⟩ = some v1 ∧ w'.cell? ⟨b, 2, none⟩ = some v2 ∧ w'.cell? ⟨b, 3, none⟩ = some v3 ∧ w'.cell? ⟨b, 4, none⟩ = some v4 ∧ ∀ o, w'.frozen? ⟨b, o, none⟩ = false :=
  cfive_of (hf.tok h (by decide) (by decide))
theorem ends_two : ∀ (ts : L), ts.length % 2 = 0 → ts = [] ∨ ∃ pre p q, ts = pre ++ [p, q] ∧ pre.length % 2 = 0
  | [], _ => .inl rfl
  | [a], h => by simp at h
  | a :: b :: l, h => by
    rcases ends_two l (by simp at h; omega) with rfl | ⟨pre, p, q, rfl, hp⟩
    · exact .inr ⟨[], a, b, rfl, rfl⟩
    · exact .inr ⟨a :: b :: pre, p, q, rfl, by simp; omega⟩
theorem textC_even {t : Tok} {x : L} (h : textC t = .good x) : t.s.length % 2 = 0 := by
  unfold textC at h
  split at h
  · split at h
    · cases h
    · rename_i hx
      unfold utfS at hx
      split at hx
      · cases hx
      · omega
  · cases h
/-- A row that rises, by its text's parts. -/
theorem rising_two {σ : CS} {t : Tok} {x : L} {pre : L} {p q : UInt8} {c : Int} {N V : Nat} (h : textC t = .good x) (he : t.s = pre ++ [p, q]) (hp : pre.length % 2 = 0) (hV : V = 256 * p.toNat + q.toNat) :
    risingC σ t c (N + 1) = if 65535 < V + N then .bad 2 else riseC (unitsN pre) V c (N + 1) 0 σ := by
  unfold risingC
  rw [h]
  dsimp only
  rw [he, unitsN_two _ _ _ hp, ← hV, if_neg (by simp)]
  rw [show (unitsN pre ++ [V]).getLastD 0 = V by simp, show (unitsN pre ++ [V]).dropLast = unitsN pre by simp]
  rfl
theorem rising_none {σ : CS} {t : Tok} {x : L} {c : Int} {many : Nat} (h : textC t = .good x) (he : t.s = []) : risingC σ t c many = .bad 3 := by
  unfold risingC
  rw [h]
  dsimp only
  rw [he]; rfl
theorem rising_bad {σ : CS} {t : Tok} {k : Int} {c : Int} {many : Nat} (h : textC t = .bad k) : risingC σ t c many = .bad k := by
  unfold risingC
  rw [h]
set_option maxRecDepth 100000 in
set_option maxHeartbeats 2000000 in
theorem rrow_rise (B r : Nat) (s : ByteArray) (a : Nat) (p0 q0 n0 : Int) (σ : CS) (kd : Int) (ts : L) (ln : Nat) (x y : Int) (N : Nat) (hx : 0 ≤ x) (hy : y ≤ 65535) (hN : y - x = (N : Int)) (hts : ts.length ≤ 1000000)
    (hm : ¬(kd = 6 ∧ ts = [91])) (w : World) (hS : RS B w r s a σ) (hB : B ≤ w.heap.size)
    (HT : Hid (∀ W, RS B W r s a σ → Calls Tryz.prog 52 #[.pointer (some ⟨r, 0, none⟩), .agg #[.int .i64 kd, .int .i64 p0, .int .i64 q0, .int .i64 n0, .string ⟨ts.toArray⟩]] W (TxtP B r s a σ W (textC ⟨kd, ln, n0, ts⟩)))) :
    Calls Tryz.prog 54 #[.pointer (some ⟨r, 0, none⟩), .int .i64 x, .int .i64 y, .agg #[.int .i64 kd, .int .i64 p0, .int .i64 q0, .int .i64 n0, .string ⟨ts.toArray⟩]] w (TelQ B r s a w (risingC σ ⟨kd, ln, n0, ts⟩ x (N + 1))) := by
  have htot : (kd != 6) = true ∨ (kd != 6) = false ∧ (ts == [91]) = false := by
    by_cases k6 : kd = 6
    · refine .inr ⟨by simpa using k6, ?_⟩
      have : ¬ ts = [91] := fun h => hm ⟨k6, h⟩
      simpa using this
    · exact .inl (by simpa using k6)
  have hlt := hS.lt
  obtain ⟨c5, f5⟩ := hS.cell5
  have hS0 := Lib.hid (hS.alloc (.cells #[.int .i64 kd, .int .i64 p0, .int .i64 q0, .int .i64 n0, .string ⟨ts.toArray⟩] 59))
  have d0 : decide (y < x) = false := decide_eq_false (by omega)
  have d1 : decide (x ≤ y) = true := decide_eq_true (by omega)
  have hBX : Hid ((w.alloc (.cells #[.int .i64 kd, .int .i64 p0, .int .i64 q0, .int .i64 n0, .string ⟨ts.toArray⟩] 59)).heap[w.heap.size]? = some (.cells #[.int .i64 kd, .int .i64 p0, .int .i64 q0, .int .i64 n0, .string ⟨ts.toArray⟩] 59 (0, 0))) := Lib.hid (heap_alloc_new _ _)
  clear hm
  cases hTx : textC ⟨kd, ln, n0, ts⟩ with
  | bad k =>
    rw [rising_bad hTx]
    rw [hTx] at HT
    clear hTx
    rcases htot with kk | ⟨kk, s9⟩
    all_goals
      go_enter Tryz.func54, Tryz.ntmps54
      go_wp2_with fail
      refine (HT.out _ hS0.out).mono ?_
      rintro e WW ⟨rfl, hE1, hF1⟩
      obtain ⟨e5, ef5⟩ := hE1.cell5
      have ek : (k == 0) = false := by simpa using hE1.2.1
      have HE := Lib.hid (And.intro hE1 (((Fq.refl B w).alloc _).trans hF1))
      clear hE1 hF1
      go_wp2
      go_loopw [8] (fun i wr => i = .int .i64 x ∧ Hid (RE B wr r k ∧ Fq B w wr)) (fun _ _ => 0)
      case atStart => exact ⟨rfl, HE⟩
      case round =>
        clear e5 ef5 HE
        obtain ⟨rfl, HE⟩ := hrel
        obtain ⟨e5, ef5⟩ := HE.out.1.cell5
        go_wp2
        refine bodyPost_ret (results_none rfl _ _ _) rfl ?_
        exact ⟨by first | rfl | trivial, HE.out.1, HE.out.2⟩
  | good xt =>
    have hev := textC_even hTx
    dsimp only at hev
    rcases ends_two ts hev with rfl | ⟨pre, p, q, hpq, hpe⟩
    · rw [rising_none hTx rfl]
      rw [hTx] at HT
      clear hTx hev
      obtain ⟨k, hk⟩ : ∃ k : Int, 3 = k := ⟨_, rfl⟩
      have HL := Lib.hid (fun W hS => rlast_none B r s a σ (N : Int) W hS)
      rw [hk] at HL ⊢
      have ek : (k == 0) = false := by subst hk; rfl
      clear hk
      rcases htot with kk | ⟨kk, s9⟩
      all_goals
        go_enter Tryz.func54, Tryz.ntmps54
        go_wp2_with fail
        refine (HT.out _ hS0.out).mono ?_
        rintro e W1 ⟨rfl, hS1, hF1⟩
        obtain ⟨e5, ef5⟩ := hS1.cell5
        obtain ⟨y0, y1, y2, y3, y4, yf⟩ := box_five hBX.out hF1
        have HS1 := Lib.hid hS1
        have HF1 := Lib.hid (And.intro hF1 (((Fq.refl B w).alloc _).trans hF1))
        clear hS1 hF1
        go_wp2_with fail
        refine (HL.out _ HS1.out).mono ?_
        rintro e WW ⟨rfl, hF2, hh⟩
        obtain ⟨h0, _⟩ | ⟨_, hE1⟩ := hh
        · subst h0; exact absurd ek (by decide)
        clear e5 ef5 y0 y1 y2 y3 y4 yf
        obtain ⟨e5, ef5⟩ := hE1.cell5
        have HE := Lib.hid (And.intro hE1 (HF1.out.2.trans hF2))
        clear hE1 hF2 HF1 HS1
        go_wp2
        go_loopw [8] (fun i wr => i = .int .i64 x ∧ Hid (RE B wr r k ∧ Fq B w wr)) (fun _ _ => 0)
        case atStart => exact ⟨rfl, HE⟩
        case round =>
          clear e5 ef5 HE
          obtain ⟨rfl, HE⟩ := hrel
          obtain ⟨e5, ef5⟩ := HE.out.1.cell5
          go_wp2
          refine bodyPost_ret (results_none rfl _ _ _) rfl ?_
          exact ⟨by first | rfl | trivial, HE.out.1, HE.out.2⟩
    · obtain ⟨V, hV⟩ : ∃ V, V = 256 * p.toNat + q.toNat := ⟨_, rfl⟩
      have hp8 := UInt8.toNat_lt p
      have hq8 := UInt8.toNat_lt q
      have hV2 : V ≤ 65535 := by omega
      have hpl : pre.length ≤ 1000000 := by rw [hpq, List.length_append] at hts; omega
      have hxe : (⟨ts.toArray⟩ : ByteArray) = ⟨(pre ++ [p, q]).toArray⟩ := by rw [hpq]
      rw [rising_two hTx hpq hpe hV]
      rw [hTx] at HT
      have HL := Lib.hid (fun W hS => rlast_in B r s a σ ⟨ts.toArray⟩ pre p q V N hxe hpl hV hV2 (by omega) W hS)
      by_cases hbad : 65535 < V + N
      · rw [if_pos hbad] at HL ⊢
        obtain ⟨k, hk⟩ : ∃ k : Int, 2 = k := ⟨_, rfl⟩
        rw [hk] at HL ⊢
        have ek : (k == 0) = false := by subst hk; rfl
        clear hk hbad hxe hV hpq hTx hev hpl hp8 hq8 hpe
        rcases htot with kk | ⟨kk, s9⟩
        all_goals
          go_enter Tryz.func54, Tryz.ntmps54
          go_wp2_with fail
          refine (HT.out _ hS0.out).mono ?_
          rintro e W1 ⟨rfl, hS1, hF1⟩
          obtain ⟨e5, ef5⟩ := hS1.cell5
          obtain ⟨y0, y1, y2, y3, y4, yf⟩ := box_five hBX.out hF1
          have HS1 := Lib.hid hS1
          have HF1 := Lib.hid (And.intro hF1 (((Fq.refl B w).alloc _).trans hF1))
          clear hS1 hF1
          go_wp2_with fail
          refine (HL.out _ HS1.out).mono ?_
          rintro e WW ⟨rfl, hF2, hh⟩
          obtain ⟨h0, _⟩ | ⟨_, hE1⟩ := hh
          · subst h0; exact absurd ek (by decide)
          clear e5 ef5 y0 y1 y2 y3 y4 yf
          obtain ⟨e5, ef5⟩ := hE1.cell5
          have HE := Lib.hid (And.intro hE1 (HF1.out.2.trans hF2))
          clear hE1 hF2 HF1 HS1
          go_wp2
          go_loopw [8] (fun i wr => i = .int .i64 x ∧ Hid (RE B wr r k ∧ Fq B w wr)) (fun _ _ => 0)
          case atStart => exact ⟨rfl, HE⟩
          case round =>
            clear e5 ef5 HE
            obtain ⟨rfl, HE⟩ := hrel
            obtain ⟨e5, ef5⟩ := HE.out.1.cell5
            go_wp2
            refine bodyPost_ret (results_none rfl _ _ _) rfl ?_
            exact ⟨by first | rfl | trivial, HE.out.1, HE.out.2⟩
      · rw [if_neg hbad] at HL ⊢
        have HRA := Lib.hid (fun W σk kk (h : V + kk ≤ 65535) hS => rraised_in B r s a σk ⟨ts.toArray⟩ pre p q V kk hxe hpl hpe hV h W hS)
        have HVN := Lib.hid hbad
        clear hbad hxe hV hpq hTx hev hpl hp8 hq8 hpe
        obtain ⟨T, hTT⟩ : ∃ T, riseC (unitsN pre) V x (N + 1) 0 σ = T := ⟨_, rfl⟩
        rw [hTT]
        have HTT := Lib.hid hTT
        clear hTT
        rcases htot with kk | ⟨kk, s9⟩
        all_goals
          go_enter Tryz.func54, Tryz.ntmps54
          go_wp2_with fail
          refine (HT.out _ hS0.out).mono ?_
          rintro e W1 ⟨rfl, hS1, hF1⟩
          obtain ⟨e5, ef5⟩ := hS1.cell5
          obtain ⟨y0, y1, y2, y3, y4, yf⟩ := box_five hBX.out hF1
          have HS1 := Lib.hid hS1
          have HF1 := Lib.hid (And.intro hF1 (((Fq.refl B w).alloc _).trans hF1))
          clear hS1 hF1
          go_wp2_with fail
          refine (HL.out _ HS1.out).mono ?_
          rintro e W2 ⟨rfl, hF2, hh⟩
          obtain ⟨_, hS2⟩ | ⟨h0, _⟩ := hh
          rotate_left
          · exact absurd rfl h0
          clear e5 ef5 y0 y1 y2 y3 y4 yf
          have HH0 := Lib.hid (And.intro (HF1.out.1.trans hF2) (HF1.out.2.trans hF2))
          have HS2 := Lib.hid hS2
          clear hS2 hF2 HF1 HS1
          go_wp2
          go_loopw [8] (fun i wr => ∃ k : Nat, k ≤ N + 1 ∧ i = .int .i64 (x + (k : Int)) ∧ Hid (Fq B (w.alloc (.cells #[.int .i64 kd, .int .i64 p0, .int .i64 q0, .int .i64 n0, .string ⟨ts.toArray⟩] 59)) wr ∧ Fq B w wr) ∧ Hid ((∃ σk, RS B wr r s a σk ∧ riseC (unitsN pre) V x (N + 1 - k) k σk = T) ∨ (∃ e, RE B wr r e ∧ T = .bad e))) (fun i _ => (y + 1 - intOf i).toNat)
          case atStart => exact ⟨0, by omega, by simp, HH0, Lib.hid (.inl ⟨σ, HS2.out, HTT.out⟩)⟩
          case round =>
            clear HH0 HS2 HTT
            obtain ⟨k, hk, rfl, HFF, HX⟩ := hrel
            obtain ⟨y0, y1, y2, y3, y4, yf⟩ := box_five hBX.out HFF.out.1
            have hlw : w.heap.size < wr.heap.size := by have := HFF.out.1.size; simp at this; omega
            rcases HX.out with ⟨σk, hSk, hTk⟩ | ⟨e, hEk, rfl⟩
            · obtain ⟨e5, ef5⟩ := hSk.cell5
              by_cases hkN : k ≤ N
              · have f0 : decide (x + (k : Int) ≤ y) = true := decide_eq_true (by omega)
                have f1 : x + (k : Int) - x = (k : Int) := by omega
                have f2 := IntWalk.i64_in (k : Int) ⟨by omega, by omega⟩
                have f3 := IntWalk.i64_in (x + (k : Int) + 1) ⟨by omega, by omega⟩
                have g0 : 0 ≤ x + (k : Int) := by omega
                have g1 : x + (k : Int) ≤ 1000000 := by omega
                have HRW := Lib.hid (HRA.out wr σk k (by have := HVN.out; omega) hSk)
                have HSK := Lib.hid hSk
                rw [show N + 1 - k = (N - k) + 1 by omega, riseC] at hTk
                obtain ⟨R, hR⟩ : ∃ R, text16 (unitsN pre ++ [V + k]) = R := ⟨_, rfl⟩
                rw [hR] at hTk HRW
                have HTK := Lib.hid hTk
                clear hR hTk hSk HX
                cases R with
                | none =>
                  obtain rfl : T = .bad 2 := HTK.out.symm
                  go_wp2_with fail
                  refine HRW.out.mono ?_
                  rintro e W3 ⟨rfl, hE3, hF3⟩
                  clear e5 ef5 y0 y1 y2 y3 y4 yf
                  obtain ⟨e5, ef5⟩ := hE3.cell5
                  have HH := Lib.hid (And.intro hE3 (And.intro (HFF.out.1.trans hF3) (HFF.out.2.trans hF3)))
                  clear hE3 hF3
                  go_wp2
                  go_roundw
                  case rel => exact ⟨k + 1, by omega, by first | go_num | (congr 1; omega), Lib.hid HH.out.2, Lib.hid (.inr ⟨2, HH.out.1, rfl⟩)⟩
                  case measure => simp [intOf]; omega
                | some yv =>
                  have HTE := Lib.hid (fun W (hS : RS B W r s a σk) => rtell_in B r s a σk (x + (k : Int)) yv g0 g1 W hS (Nat.le_trans hS.base (Nat.le_of_lt hS.lt)))
                  obtain ⟨R2, hR2⟩ : ∃ R2, tellC σk (x + (k : Int)) yv = R2 := ⟨_, rfl⟩
                  dsimp only at HTK
                  rw [hR2] at HTK HTE
                  clear hR2
                  cases R2 with
                  | bad e2 =>
                    obtain rfl : T = .bad e2 := HTK.out.symm
                    go_wp2_with fail
                    refine HRW.out.mono ?_
                    rintro e W3 ⟨rfl, hS3, hF3⟩
                    clear e5 ef5 y0 y1 y2 y3 y4 yf
                    obtain ⟨e5, ef5⟩ := hS3.cell5
                    have HS3 := Lib.hid (And.intro hS3 (And.intro (HFF.out.1.trans hF3) (HFF.out.2.trans hF3)))
                    clear hS3 hF3
                    go_wp2_with fail
                    refine (HTE.out _ HS3.out.1).mono ?_
                    rintro e W4 ⟨rfl, hE4, hF4⟩
                    clear e5 ef5
                    have HH := Lib.hid (And.intro hE4 (And.intro (HS3.out.2.1.trans hF4) (HS3.out.2.2.trans hF4)))
                    clear hE4 hF4
                    go_wp2
                    go_roundw
                    case rel => exact ⟨k + 1, by omega, by first | go_num | (congr 1; omega), Lib.hid HH.out.2, Lib.hid (.inr ⟨e2, HH.out.1, rfl⟩)⟩
                    case measure => simp [intOf]; omega
                  | good σ' =>
                    dsimp only at HTK
                    go_wp2_with fail
                    refine HRW.out.mono ?_
                    rintro e W3 ⟨rfl, hS3, hF3⟩
                    clear e5 ef5 y0 y1 y2 y3 y4 yf
                    obtain ⟨e5, ef5⟩ := hS3.cell5
                    have HS3 := Lib.hid (And.intro hS3 (And.intro (HFF.out.1.trans hF3) (HFF.out.2.trans hF3)))
                    clear hS3 hF3
                    go_wp2_with fail
                    refine (HTE.out _ HS3.out.1).mono ?_
                    rintro e W4 ⟨rfl, hE4, hF4⟩
                    clear e5 ef5
                    have HH := Lib.hid (And.intro hE4 (And.intro (HS3.out.2.1.trans hF4) (HS3.out.2.2.trans hF4)))
                    clear hE4 hF4
                    go_wp2
                    go_roundw
                    case rel => exact ⟨k + 1, by omega, by first | go_num | (congr 1; omega), Lib.hid HH.out.2, Lib.hid (.inl ⟨σ', HH.out.1, by rw [show N + 1 - (k + 1) = N - k by omega]; exact HTK.out⟩)⟩
                    case measure => simp [intOf]; omega
              · have f0 : decide (x + (k : Int) ≤ y) = false := decide_eq_false (by omega)
                obtain rfl : T = .good σk := by rw [show N + 1 - k = 0 by omega, riseC] at hTk; exact hTk.symm
                have HSK := Lib.hid hSk
                clear hSk HX hTk
                go_wp2
                refine bodyPost_ret (results_none rfl _ _ _) rfl ?_
                exact ⟨by first | rfl | trivial, HSK.out, HFF.out.2⟩
            · obtain ⟨e5, ef5⟩ := hEk.cell5
              have ek : (e == 0) = false := by simpa using hEk.2.1
              have HE := Lib.hid hEk
              clear hEk HX
              by_cases hkN : k ≤ N
              · have f0 : decide (x + (k : Int) ≤ y) = true := decide_eq_true (by omega)
                go_wp2
                refine bodyPost_ret (results_none rfl _ _ _) rfl ?_
                exact ⟨by first | rfl | trivial, HE.out, HFF.out.2⟩
              · have f0 : decide (x + (k : Int) ≤ y) = false := decide_eq_false (by omega)
                go_wp2
                refine bodyPost_ret (results_none rfl _ _ _) rfl ?_
                exact ⟨by first | rfl | trivial, HE.out, HFF.out.2⟩
end Go.Proofs.YtibffdaljmmdoaaGreatDoor
