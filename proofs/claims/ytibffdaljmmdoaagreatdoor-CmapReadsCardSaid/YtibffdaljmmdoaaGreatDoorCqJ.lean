/- The reference's Read of a mapping. -/
import Derived.Test.YtibffdaljmmdoaaGreatDoorCqI
import Derived.Test.YtibffdaljmmdoaaGreatDoorGRdC
set_option linter.all false
namespace Go.Proofs.YtibffdaljmmdoaaGreatDoor
open Go.RowKit Fo Go.Maps

theorem ext_begin (P : L) : (⟨(beginN ++ P).toArray⟩ : ByteArray).extract 5 (beginN ++ P).length = ⟨P.toArray⟩ := by
  apply ByteArray.ext
  simp [beginN]
theorem partOf_words {t : Tok} (h : partOf t = none) : (t.kind == 5) = false ∨ ((t.kind == 5) = true ∧ (t.s == [98, 101, 103, 105, 110, 99, 111, 100, 101, 115, 112, 97, 99, 101, 114, 97, 110, 103, 101]) = false ∧ (t.s == [98, 101, 103, 105, 110, 98, 102, 99, 104, 97, 114]) = false ∧ (t.s == [98, 101, 103, 105, 110, 98, 102, 114, 97, 110, 103, 101]) = false) := by
  unfold partOf at h
  by_cases h5 : t.kind = 5
  · right
    rw [if_pos h5] at h
    by_cases h1 : t.s = beginN ++ partN 0
    · rw [if_pos h1] at h; cases h
    rw [if_neg h1] at h
    by_cases h2 : t.s = beginN ++ partN 1
    · rw [if_pos h2] at h; cases h
    rw [if_neg h2] at h
    by_cases h3 : t.s = beginN ++ partN 2
    · rw [if_pos h3] at h; cases h
    exact ⟨by simpa using h5, by simpa [beginN, partN] using h1, by simpa [beginN, partN] using h2, by simpa [beginN, partN] using h3⟩
  · left; simpa using h5
set_option maxRecDepth 100000 in
set_option maxHeartbeats 2000000 in
theorem rread46_in (s : ByteArray) (hs : s.size ≤ 1000000) (w : World) :
    Calls Tryz.prog 10 #[.string s] w (ReadT w s.data.toList) := by
  obtain ⟨R, hR⟩ : ∃ R, readF (s.data.toList.length + 1) s.data.toList ⟨0, 0, []⟩ = R := ⟨_, rfl⟩
  rw [ReadT_of hR]
  have HR := Lib.hid (show readF (s.size + 1) (s.data.toList.drop 0) ⟨0, 0, []⟩ = R by rw [List.drop_zero]; simpa using hR)
  clear hR
  have hS0 : RS w.heap.size (w.alloc (.cells #[.string s, .int .i64 0, .int .i64 0, .slice none 0 0, .int .i64 0, .int .i64 0] 57)) w.heap.size s 0 ⟨0, 0, []⟩ :=
    ⟨Nat.le_refl _, .nil, Nat.le_refl _, Nat.zero_le _, .slice none 0 0, heap_alloc_new _ _, mownS_nil _ _⟩
  have HS0 := Lib.hid hS0
  clear hS0
  go_enter Tryz.func10, Tryz.ntmps10
  go_wp2
  go_loopg [] (s.size + 1) (fun f wr => Hid (Fq w.heap.size w wr) ∧ Hid ((∃ (b : Nat) (σb : CS), b ≤ s.size ∧ s.size - b < f ∧ RS w.heap.size wr w.heap.size s b σb ∧ readF f (s.data.toList.drop b) σb = R) ∨ (∃ e, RE w.heap.size wr w.heap.size e ∧ R = .bad e)))
  case atStart => exact ⟨Lib.hid ((Fq.refl _ _).alloc _), Lib.hid (.inl ⟨0, ⟨0, 0, []⟩, Nat.zero_le _, by omega, HS0.out, HR.out⟩)⟩
  case round =>
    clear HR HS0
    obtain ⟨HFF, HX⟩ := hrel
    rcases HX.out with ⟨b, σb, hb, hbf, hSr, hpc⟩ | ⟨e, hEr, hse⟩
    · obtain ⟨e5, ef5⟩ := hSr.cell5
      obtain ⟨f, rfl⟩ : ∃ f, gk = f + 1 := ⟨gk - 1, by omega⟩
      cases hn : nextC (s.data.toList.drop b) with
      | bad k =>
        obtain rfl : R = .bad k := by rw [← hpc, readF_bad hn]
        have HNX := Lib.hid (rnx_bad w.heap.size w.heap.size s b σb false k hb (by omega) wr hSr (nextC_lex hn) (nextC_ge hn))
        clear hn hSr HX hpc
        go_wp2_with fail
        refine HNX.out.mono ?_
        rintro e' w1 ⟨k0, k1, k2, k3, s4, rfl, hE1, hF1⟩
        clear e5 ef5
        obtain ⟨e5, ef5⟩ := hE1.cell5
        have ek : (k == 0) = false := by simpa using hE1.2.1
        have hl1 := hE1.lt
        have HH := Lib.hid (And.intro (hE1.alloc (.cells #[.int .i64 k0, .int .i64 k1, .int .i64 k2, .int .i64 k3, .string s4] 59)) ((HFF.out.trans hF1).alloc (.cells #[.int .i64 k0, .int .i64 k1, .int .i64 k2, .int .i64 k3, .string s4] 59)))
        clear hE1 hF1
        go_wp2
        go_roundg f
        case measure => omega
        case rel => exact ⟨Lib.hid HH.out.2, Lib.hid (.inr ⟨k, HH.out.1, rfl⟩)⟩
      | good y =>
        obtain ⟨t, l2⟩ := y
        obtain ⟨p2, q2, n1, n2, n3, n4, rfl, n6⟩ := nextC_pos hn hb
        have HNX := Lib.hid (rnx_good w.heap.size w.heap.size s b p2 σb false t hb (by omega) wr hSr n1 n2 (fun h => by cases h))
        simp only [n3] at HNX
        by_cases h0 : t.kind = 0
        · obtain rfl : R = .good σb := by rw [← hpc, readF_end hn h0]
          have k0 : (t.kind == 0) = true := by simpa using h0
          clear hn n1 n2 n3 n6 hSr HX hpc
          go_wp2_with fail
          refine HNX.out.mono ?_
          rintro e' w1 ⟨rfl, hS1, hF1⟩
          clear e5 ef5
          obtain ⟨e5, ef5⟩ := hS1.cell5
          have hl1 := hS1.lt
          have HF1 := Lib.hid ((HFF.out.trans hF1).alloc (.cells #[.int .i64 t.kind, .int .i64 p2, .int .i64 q2, .int .i64 t.n, .string ⟨t.s.toArray⟩] 59))
          have HS1 := Lib.hid (hS1.alloc (.cells #[.int .i64 t.kind, .int .i64 p2, .int .i64 q2, .int .i64 t.n, .string ⟨t.s.toArray⟩] 59))
          clear hS1 hF1
          unfold ctkV
          obtain ⟨v, hRB, hown⟩ := HS1.out.held
          obtain ⟨c0, c1, c2, c3, c4, c5, cf⟩ := hRB.six
          obtain ⟨z, hz⟩ : ∃ z, σb.size = z := ⟨_, rfl⟩
          rw [hz] at c2
          have d2 := (World.cell?_of_block (a := ⟨w.heap.size, 2, none⟩) (Below.heap_alloc w1 (.cells #[.int .i64 t.kind, .int .i64 p2, .int .i64 q2, .int .i64 t.n, .string ⟨t.s.toArray⟩] 59) _ hl1)).symm.trans c2
          have d3 := (World.cell?_of_block (a := ⟨w.heap.size, 3, none⟩) (Below.heap_alloc w1 (.cells #[.int .i64 t.kind, .int .i64 p2, .int .i64 q2, .int .i64 t.n, .string ⟨t.s.toArray⟩] 59) _ hl1)).symm.trans c3
          have HWZ := Lib.hid (show ((z : Int) == 2) = (σb.size == 2) by rw [hz, Bool.eq_iff_iff]; simp; omega)
          have HQ := Lib.hid (show σb.m.length ≤ 4096 from Nat.le_trans HS1.out.many HS1.out.told)
          have HO := Lib.hid hown
          clear hRB hown hz c0 c1 c4
          go_wp2
          go_region
          go_wp2
          have HO2 := HO.out
          have HF2 := HF1.out.below (Nat.le_refl _)
          rw [h0] at HO2 HF2
          refine bodyPost_ret (v := .tuple #[v, .bool (σb.size == 2), .int .i64 0]) (by simp [results, Tryz.results10, go_sem, HWZ.out]) rfl ⟨v, rfl, HQ.out, World.ownsRow.kept HO2 (row := none) ⟨rfl, rfl, rfl, Nat.le_refl _, fun _ _ _ => rfl⟩ (Classical.em _), HF2.drew⟩
        · have k0 : (t.kind == 0) = false := by simpa using h0
          have hq := n6 h0
          cases hp : partOf t with
          | none =>
            have HX2 := Lib.hid (show readF f (s.data.toList.drop q2) σb = R by rw [← hpc, readF_none hn h0 hp])
            have htot := partOf_words hp
            clear hn n1 n2 n3 n6 hp hSr HX hpc
            rcases htot with k5 | ⟨k5, s0, s1, s2⟩
            · 
              go_wp2_with fail
              refine HNX.out.mono ?_
              rintro e' w1 ⟨rfl, hS1, hF1⟩
              clear e5 ef5
              obtain ⟨e5, ef5⟩ := hS1.cell5
              have hl1 := hS1.lt
              have HF1 := Lib.hid ((HFF.out.trans hF1).alloc (.cells #[.int .i64 t.kind, .int .i64 p2, .int .i64 q2, .int .i64 t.n, .string ⟨t.s.toArray⟩] 59))
              have HS1 := Lib.hid (hS1.alloc (.cells #[.int .i64 t.kind, .int .i64 p2, .int .i64 q2, .int .i64 t.n, .string ⟨t.s.toArray⟩] 59))
              clear hS1 hF1
              unfold ctkV
              go_wp2
              go_roundg f
              case measure => omega
              case rel => exact ⟨Lib.hid HF1.out, Lib.hid (.inl ⟨q2, σb, n4, by omega, HS1.out, HX2.out⟩)⟩
            · 
              go_wp2_with fail
              refine HNX.out.mono ?_
              rintro e' w1 ⟨rfl, hS1, hF1⟩
              clear e5 ef5
              obtain ⟨e5, ef5⟩ := hS1.cell5
              have hl1 := hS1.lt
              have HF1 := Lib.hid ((HFF.out.trans hF1).alloc (.cells #[.int .i64 t.kind, .int .i64 p2, .int .i64 q2, .int .i64 t.n, .string ⟨t.s.toArray⟩] 59))
              have HS1 := Lib.hid (hS1.alloc (.cells #[.int .i64 t.kind, .int .i64 p2, .int .i64 q2, .int .i64 t.n, .string ⟨t.s.toArray⟩] 59))
              clear hS1 hF1
              unfold ctkV
              go_wp2
              go_roundg f
              case measure => omega
              case rel => exact ⟨Lib.hid HF1.out, Lib.hid (.inl ⟨q2, σb, n4, by omega, HS1.out, HX2.out⟩)⟩
          | some p =>
            obtain ⟨hp3, hpk, hps⟩ := partOf_some hp
            have k5 : (t.kind == 5) = true := by simpa using hpk
            have HPART := Lib.hid (fun W hS => rpart_in p hp3 w.heap.size w.heap.size s q2 σb n4 (by omega) ((s.data.toList.drop b).length + 1) (by rw [List.length_drop]; simp; omega) W hS)
            have htot : (t.s == [98, 101, 103, 105, 110, 99, 111, 100, 101, 115, 112, 97, 99, 101, 114, 97, 110, 103, 101]) = true ∨ ((t.s == [98, 101, 103, 105, 110, 99, 111, 100, 101, 115, 112, 97, 99, 101, 114, 97, 110, 103, 101]) = false ∧ (t.s == [98, 101, 103, 105, 110, 98, 102, 99, 104, 97, 114]) = true) ∨ ((t.s == [98, 101, 103, 105, 110, 99, 111, 100, 101, 115, 112, 97, 99, 101, 114, 97, 110, 103, 101]) = false ∧ (t.s == [98, 101, 103, 105, 110, 98, 102, 99, 104, 97, 114]) = false ∧ (t.s == [98, 101, 103, 105, 110, 98, 102, 114, 97, 110, 103, 101]) = true) := by
              rw [hps]
              match p, hp3 with
              | 0, _ => exact .inl (by decide)
              | 1, _ => exact .inr (.inl ⟨by decide, by decide⟩)
              | 2, _ => exact .inr (.inr ⟨by decide, by decide, by decide⟩)
            have hl5 : 5 ≤ t.s.length := by rw [hps]; simp [beginN]
            have hx5 : (⟨t.s.toArray⟩ : ByteArray).extract 5 t.s.length = ⟨(partN p).toArray⟩ := by
              rw [hps]; exact ext_begin (partN p)
            cases hx : partC p ((s.data.toList.drop b).length + 1) (s.data.toList.drop q2) σb with
            | bad k =>
              obtain rfl : R = .bad k := by rw [← hpc, readF_pbad hn h0 hp hx]
              rw [hx] at HPART
              obtain ⟨P, hP⟩ : ∃ P, partN p = P := ⟨_, rfl⟩
              rw [hP] at HPART hx5
              clear hn n1 n2 n3 n6 hp hx hpk hSr HX hpc h0 hps hP
              rcases htot with s0 | ⟨s0, s1⟩ | ⟨s0, s1, s2⟩
              all_goals
                go_wp2_with fail
                refine HNX.out.mono ?_
                rintro e' w1 ⟨rfl, hS1, hF1⟩
                clear e5 ef5
                obtain ⟨e5, ef5⟩ := hS1.cell5
                have hl1 := hS1.lt
                have HF1 := Lib.hid ((HFF.out.trans hF1).alloc (.cells #[.int .i64 t.kind, .int .i64 p2, .int .i64 q2, .int .i64 t.n, .string ⟨t.s.toArray⟩] 59))
                have HS1 := Lib.hid (hS1.alloc (.cells #[.int .i64 t.kind, .int .i64 p2, .int .i64 q2, .int .i64 t.n, .string ⟨t.s.toArray⟩] 59))
                clear hS1 hF1
                unfold ctkV
                go_wp2_with fail
                refine (HPART.out _ HS1.out).mono ?_
                rintro e' w2 ⟨rfl, hE2, hF2⟩
                have HH := Lib.hid (And.intro hE2 (HF1.out.trans hF2))
                clear hE2 hF2
                go_wp2
                go_roundg f
                case measure => omega
                case rel => exact ⟨Lib.hid HH.out.2, Lib.hid (.inr ⟨k, HH.out.1, rfl⟩)⟩
            | good y =>
              obtain ⟨σ5, l5⟩ := y
              have HX2 := Lib.hid (show readF f l5 σ5 = R by rw [← hpc, readF_more hn h0 hp hx])
              have HLEN := Lib.hid (show l5.length ≤ s.size - q2 by
                have := partC_len' hx
                have h2 : s.data.toList.length = s.size := by simp
                rw [List.length_drop, h2] at this; omega)
              rw [hx] at HPART
              obtain ⟨P, hP⟩ : ∃ P, partN p = P := ⟨_, rfl⟩
              rw [hP] at HPART hx5
              clear hn n1 n2 n3 n6 hp hx hpk hSr HX hpc h0 hps hP
              rcases htot with s0 | ⟨s0, s1⟩ | ⟨s0, s1, s2⟩
              all_goals
                go_wp2_with fail
                refine HNX.out.mono ?_
                rintro e' w1 ⟨rfl, hS1, hF1⟩
                clear e5 ef5
                obtain ⟨e5, ef5⟩ := hS1.cell5
                have hl1 := hS1.lt
                have HF1 := Lib.hid ((HFF.out.trans hF1).alloc (.cells #[.int .i64 t.kind, .int .i64 p2, .int .i64 q2, .int .i64 t.n, .string ⟨t.s.toArray⟩] 59))
                have HS1 := Lib.hid (hS1.alloc (.cells #[.int .i64 t.kind, .int .i64 p2, .int .i64 q2, .int .i64 t.n, .string ⟨t.s.toArray⟩] 59))
                clear hS1 hF1
                unfold ctkV
                go_wp2_with fail
                refine (HPART.out _ HS1.out).mono ?_
                rintro e' w2 ⟨rfl, ⟨a6, ha6, rfl, hS2⟩, hF2⟩
                have HH := Lib.hid (And.intro hS2 (HF1.out.trans hF2))
                have hq6 : s.size - a6 ≤ s.size - q2 := by
                  have := HLEN.out
                  have h2 : s.data.toList.length = s.size := by simp
                  rw [List.length_drop, h2] at this; exact this
                clear hS2 hF2
                go_wp2
                go_roundg f
                case measure => omega
                case rel => exact ⟨Lib.hid HH.out.2, Lib.hid (.inl ⟨a6, σ5, ha6, by omega, HH.out.1, HX2.out⟩)⟩
    · obtain rfl : R = .bad e := hse
      obtain ⟨e5, ef5⟩ := hEr.cell5
      have ek : (e == 0) = false := by simpa using hEr.2.1
      have HE := Lib.hid hEr
      clear hEr HX
      go_wp2
      go_region
      go_wp2
      refine bodyPost_ret (v := .tuple #[.slice none 0 0, .bool false, .int .i64 e]) (by simp [results, Tryz.results10, go_sem]) rfl ⟨rfl, (HFF.out.below (Nat.le_refl _)).drew⟩
end Go.Proofs.YtibffdaljmmdoaaGreatDoor
