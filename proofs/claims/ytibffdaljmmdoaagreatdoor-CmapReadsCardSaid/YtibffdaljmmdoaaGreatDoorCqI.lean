/- The reference's reader of a mapping: a section. -/
import Derived.Test.YtibffdaljmmdoaaGreatDoorCqH
set_option linter.all false
namespace Go.Proofs.YtibffdaljmmdoaaGreatDoor
open Go.RowKit Fo Go.Maps

theorem toks_box {w : World} {b : Nat} {a0 a1 a2 a3 a4 : Value} {t : TypeId} {fr : Nat × Nat} (h : w.heap[b]? = some (.cells #[a0, a1, a2, a3, a4] t fr)) (v0 v1 v2 v3 v4 : Value) :
    (toks w b v0 v1 v2 v3 v4).heap[b]? = some (.cells #[v0, v1, v2, v3, v4] t fr) := by
  unfold toks
  simp only [World.setCell, Array.getElem?_modify]
  simp [h]
theorem rowT_len {x y : Int} {σ σ' : CS} {t : Tok} {l l' : L} (h : rowT x y σ t l = .good (σ', l')) : l'.length ≤ l.length := by
  unfold rowT at h
  by_cases hm : t.kind = 6 ∧ t.s = [91]
  · rw [if_pos hm] at h
    cases hs : sevC (l.length + 1) l [] with
    | bad k => rw [hs] at h; cases h
    | good u =>
      obtain ⟨xs, r3⟩ := u
      rw [hs] at h
      unfold listC at h
      dsimp only at h
      have hl := sevC_len' hs
      by_cases h2 : (xs.length : Int) = y - x + 1
      · rw [if_pos h2] at h
        cases ht : tellAllC x xs σ with
        | bad k => rw [ht] at h; cases h
        | good σ2 => rw [ht] at h; cases h; exact hl
      · rw [if_neg h2] at h; cases h
  · rw [if_neg hm] at h
    cases ht : risingC σ t x (y - x + 1).toNat with
    | bad k => rw [ht] at h; cases h
    | good σ2 => rw [ht] at h; cases h; exact Nat.le_refl _
theorem rowC_cbad {pp : Nat} {t : Tok} {l : L} {σ : CS} {k : Int} (h : codeC σ t = .bad k) : rowC pp t l σ = .bad k := by
  unfold rowC
  by_cases h1 : pp = 1
  · rw [if_pos h1, h]
  · rw [if_neg h1]; unfold spanC; rw [h]
theorem rowC_one {t : Tok} {l : L} {σ σ1 : CS} {c : Int} (h : codeC σ t = .good (σ1, c)) : rowC 1 t l σ = match nextS l with
    | .bad k => .bad k
    | .good (t2, r) => match textC t2 with
      | .bad k => .bad k
      | .good x => behindC r (tellC σ1 c x) := by
  unfold rowC
  rw [if_pos rfl, h]
  dsimp only
  cases nextS l with
  | bad k => rfl
  | good z =>
    obtain ⟨t2, r⟩ := z
    dsimp only
    cases textC t2 with
    | bad k => rfl
    | good x => dsimp only; cases tellC σ1 c x <;> rfl
/-- Behind a row's two codes. -/
def behind2 (pp : Nat) (x y : Int) (σ : CS) (l : L) : Res (CS × L) :=
  if pp = 0 then .good (σ, l) else match nextS l with
    | .bad k => .bad k
    | .good (t2, r2) => rowT x y σ t2 r2
theorem rowC_span {pp : Nat} (hp : pp = 0 ∨ pp = 2) {t : Tok} {l : L} {σ σ1 : CS} {c : Int} (h : codeC σ t = .good (σ1, c)) : rowC pp t l σ = match nextS l with
    | .bad k => .bad k
    | .good (t2, r) => match codeC σ1 t2 with
      | .bad k => .bad k
      | .good (σ2, d) => if c ≤ d then behind2 pp c d σ2 r else .bad 3 := by
  have hs : spanC σ t l = match nextS l with
    | .bad k => .bad k
    | .good (t2, r) => match codeC σ1 t2 with
      | .bad k => .bad k
      | .good (σ2, d) => if c ≤ d then .good (σ2, c, d, r) else .bad 3 := by
    unfold spanC; rw [h]; rfl
  rcases hp with rfl | rfl
  · unfold rowC
    rw [if_neg (by decide), hs]
    cases nextS l with
    | bad k => rfl
    | good z =>
      obtain ⟨t2, r⟩ := z
      dsimp only
      cases codeC σ1 t2 with
      | bad k => rfl
      | good u =>
        obtain ⟨σ2, d⟩ := u
        dsimp only
        by_cases hcd : c ≤ d
        · rw [if_pos hcd, if_pos hcd]; rfl
        · rw [if_neg hcd, if_neg hcd]
  · rw [rowC_two, hs]
    cases nextS l with
    | bad k => rfl
    | good z =>
      obtain ⟨t2, r⟩ := z
      dsimp only
      cases codeC σ1 t2 with
      | bad k => rfl
      | good u =>
        obtain ⟨σ2, d⟩ := u
        dsimp only
        by_cases hcd : c ≤ d
        · rw [if_pos hcd, if_pos hcd]; rfl
        · rw [if_neg hcd, if_neg hcd]
set_option maxRecDepth 100000 in
set_option maxHeartbeats 2000000 in
theorem rpart_in (pp : Nat) (hpp : pp < 3) (B r : Nat) (s : ByteArray) (a : Nat) (σ : CS) (ha : a ≤ s.size) (hs : s.size ≤ 1000000) (fuel : Nat) (hfu : s.size - a < fuel) (w : World) (hS : RS B w r s a σ) :
    Calls Tryz.prog 28 #[.pointer (some ⟨r, 0, none⟩), .string ⟨(partN pp).toArray⟩] w (RowQ B r s w (partC pp fuel (s.data.toList.drop a) σ)) := by
  obtain ⟨R, hR⟩ : ∃ R, partC pp fuel (s.data.toList.drop a) σ = R := ⟨_, rfl⟩
  rw [hR]
  have HR := Lib.hid hR
  obtain ⟨P, hP⟩ : ∃ P, partN pp = P := ⟨_, rfl⟩
  have HPL := Lib.hid (show P.length ≤ 100 by rw [← hP]; match pp, hpp with | 0, _ => decide | 1, _ => decide | 2, _ => decide)
  have HPP := Lib.hid hP
  have y1 : 3 + P.length ≤ 9223372036854775807 := by have := HPL.out; omega
  rw [hP]
  clear hR hP
  go_enter Tryz.func28, Tryz.ntmps28
  go_wp2
  go_loopg [5] fuel (fun f v wr => Hid (Fq B w wr) ∧ Hid ((∃ (b : Nat) (σb : CS), b ≤ s.size ∧ s.size - b < f ∧ RS B wr r s b σb ∧ partC pp f (s.data.toList.drop b) σb = R) ∨ (∃ e, RE B wr r e ∧ R = .bad e)))
  case atStart => exact ⟨Lib.hid (Fq.refl _ _), Lib.hid (.inl ⟨a, σ, ha, hfu, hS, HR.out⟩)⟩
  case round =>
    clear HR hS
    obtain ⟨HFF, HX⟩ := hrel
    rcases HX.out with ⟨b, σb, hb, hbf, hSr, hpc⟩ | ⟨e, hEr, hse⟩
    · obtain ⟨e5, ef5⟩ := hSr.cell5
      obtain ⟨f, rfl⟩ : ∃ f, gk = f + 1 := ⟨gk - 1, by omega⟩
      cases hnx : nextS (s.data.toList.drop b) with
      | bad k =>
        obtain rfl : R = .bad k := by rw [← hpc, partC_bad hnx]
        have HNX := Lib.hid (rnx_in B r s b σb hb (by omega) wr hSr k hnx)
        clear hnx hSr HX hpc
        go_wp2_with fail
        refine HNX.out.mono ?_
        rintro e' w1 ⟨k0, k1, k2, k3, s4, rfl, hE1, hF1⟩
        clear e5 ef5
        obtain ⟨e5, ef5⟩ := hE1.cell5
        have ek : (k != 0) = true := by simpa using hE1.2.1
        have hl1 := hE1.lt
        have HH := Lib.hid (And.intro (hE1.alloc (.cells #[.int .i64 k0, .int .i64 k1, .int .i64 k2, .int .i64 k3, .string s4] 59)) ((HFF.out.trans hF1).alloc (.cells #[.int .i64 k0, .int .i64 k1, .int .i64 k2, .int .i64 k3, .string s4] 59)))
        clear hE1 hF1
        go_wp2
        refine bodyPost_ret (results_none rfl _ _ _) rfl ?_
        exact ⟨by first | rfl | trivial, HH.out.1, HH.out.2⟩
      | good tt =>
        obtain ⟨t, l2⟩ := tt
        obtain ⟨p2, q2, n1, n2, n3, n4, n5, rfl⟩ := nextS_pos hnx hb
        have htl : t.s.length ≤ 1000000 := Nat.le_trans (cnextT_short n1) (by decide)
        have hq : b < q2 := by
          have := (nextS_shorter hnx).1
          have h2 : s.data.toList.length = s.size := by simp
          rw [List.length_drop, List.length_drop, h2] at this; omega
        have HNX := Lib.hid (rnx_good B r s b p2 σb true t hb (by omega) wr hSr n1 n3 (fun _ => n2))
        rw [n4] at HNX
        by_cases hend : t.kind = 5 ∧ t.s = endN ++ partN pp
        · obtain rfl : R = .good (σb, s.data.toList.drop q2) := by rw [← hpc, partC_end hnx hend]
          obtain ⟨h1, h2⟩ := hend
          rw [HPP.out] at h2
          have k6 : (t.kind == 5) = true := by simpa using h1
          have s9 : (t.s == ((⟨#[101, 110, 100]⟩ : ByteArray) ++ ⟨P.toArray⟩).toList) = true := by rw [end_bytes]; simpa using h2
          clear hnx n1 n2 n3 n4 h1 h2 hSr HX hpc
          go_wp2_with fail
          refine HNX.out.mono ?_
          rintro e' w1 ⟨rfl, hS1, hF1⟩
          clear e5 ef5
          obtain ⟨e5, ef5⟩ := hS1.cell5
          have hl1 := hS1.lt
          have HF1 := Lib.hid ((HFF.out.trans hF1).alloc (.cells #[.int .i64 t.kind, .int .i64 p2, .int .i64 q2, .int .i64 t.n, .string ⟨t.s.toArray⟩] 59))
          have HS1 := Lib.hid (hS1.alloc (.cells #[.int .i64 t.kind, .int .i64 p2, .int .i64 q2, .int .i64 t.n, .string ⟨t.s.toArray⟩] 59))
          have HBX := Lib.hid (show (w1.alloc (.cells #[.int .i64 t.kind, .int .i64 p2, .int .i64 q2, .int .i64 t.n, .string ⟨t.s.toArray⟩] 59)).heap[w1.heap.size]? = some (.cells #[.int .i64 t.kind, .int .i64 p2, .int .i64 q2, .int .i64 t.n, .string ⟨t.s.toArray⟩] 59 (0, 0)) from heap_alloc_new _ _)
          have hw1 : w.heap.size ≤ w1.heap.size := Nat.le_trans HFF.out.size hF1.size
          clear hS1 hF1
          unfold ctkV
          go_wp2
          refine bodyPost_ret (results_none rfl _ _ _) rfl ?_
          exact ⟨by first | rfl | trivial, ⟨q2, n5, rfl, HS1.out⟩, HF1.out⟩
        · have htot : (t.kind == 5) = false ∨ (t.kind == 5) = true ∧ (t.s == ((⟨#[101, 110, 100]⟩ : ByteArray) ++ ⟨P.toArray⟩).toList) = false := by
            cases k6 : (t.kind == 5)
            · exact .inl rfl
            · refine .inr ⟨rfl, ?_⟩
              rw [end_bytes]
              cases h : (t.s == endN ++ P)
              · rfl
              · exact absurd ⟨by simpa using k6, by rw [HPP.out]; simpa using h⟩ hend
          have HC := Lib.hid (fun W hS => rcode_in B r s q2 p2 q2 σb t W hS htl)
          cases hcd : codeC σb t with
          | bad k =>
            rw [hcd] at HC
            obtain rfl : R = .bad k := by rw [← hpc, partC_rbad hnx hend (rowC_cbad hcd)]
            clear hnx n1 n2 n3 n4 hSr HX hpc hend hcd
            rcases htot with k6 | ⟨k6, s9⟩
            all_goals
              go_wp2_with fail
              refine HNX.out.mono ?_
              rintro e' w1 ⟨rfl, hS1, hF1⟩
              clear e5 ef5
              obtain ⟨e5, ef5⟩ := hS1.cell5
              have hl1 := hS1.lt
              have HF1 := Lib.hid ((HFF.out.trans hF1).alloc (.cells #[.int .i64 t.kind, .int .i64 p2, .int .i64 q2, .int .i64 t.n, .string ⟨t.s.toArray⟩] 59))
              have HS1 := Lib.hid (hS1.alloc (.cells #[.int .i64 t.kind, .int .i64 p2, .int .i64 q2, .int .i64 t.n, .string ⟨t.s.toArray⟩] 59))
              have HBX := Lib.hid (show (w1.alloc (.cells #[.int .i64 t.kind, .int .i64 p2, .int .i64 q2, .int .i64 t.n, .string ⟨t.s.toArray⟩] 59)).heap[w1.heap.size]? = some (.cells #[.int .i64 t.kind, .int .i64 p2, .int .i64 q2, .int .i64 t.n, .string ⟨t.s.toArray⟩] 59 (0, 0)) from heap_alloc_new _ _)
              have hw1 : w.heap.size ≤ w1.heap.size := Nat.le_trans HFF.out.size hF1.size
              clear hS1 hF1
              unfold ctkV
              go_wp2_with fail
              refine (HC.out _ HS1.out).mono ?_
              rintro e' w2 ⟨rfl, hE2, hF2⟩
              clear e5 ef5
              obtain ⟨e5, ef5⟩ := hE2.cell5
              have ek : (k != 0) = true := by simpa using hE2.2.1
              have HH := Lib.hid (And.intro hE2 (HF1.out.trans hF2))
              clear hE2 hF2
              go_wp2
              refine bodyPost_ret (results_none rfl _ _ _) rfl ?_
              exact ⟨by first | rfl | trivial, HH.out.1, HH.out.2⟩
          | good cc =>
            obtain ⟨σ1, c⟩ := cc
            rw [hcd] at HC
            obtain ⟨_, _, hc0, hc1⟩ := codeC_keep hcd
            match pp, hpp with
            | 1, _ =>
              have HRW := Lib.hid (rowC_one (l := s.data.toList.drop q2) hcd)
              have nb : (P == [98, 102, 99, 104, 97, 114]) = true := by rw [← HPP.out]; decide
              cases hnx2 : nextS (s.data.toList.drop q2) with
              | bad k =>
                have HN2 := Lib.hid (fun W hS => rnx_in B r s q2 σ1 n5 (by omega) W hS k hnx2)
                have HSE := Lib.hid (show R = .bad k by rw [← hpc, partC_rbad hnx hend (by rw [HRW.out, hnx2])])
                clear hnx hnx2 n1 n2 n3 n4 hSr HX hpc hend hcd HRW
                rcases htot with k6 | ⟨k6, s9⟩
                all_goals
                  go_wp2_with fail
                  refine HNX.out.mono ?_
                  rintro e' w1 ⟨rfl, hS1, hF1⟩
                  clear e5 ef5
                  obtain ⟨e5, ef5⟩ := hS1.cell5
                  have hl1 := hS1.lt
                  have HF1 := Lib.hid ((HFF.out.trans hF1).alloc (.cells #[.int .i64 t.kind, .int .i64 p2, .int .i64 q2, .int .i64 t.n, .string ⟨t.s.toArray⟩] 59))
                  have HS1 := Lib.hid (hS1.alloc (.cells #[.int .i64 t.kind, .int .i64 p2, .int .i64 q2, .int .i64 t.n, .string ⟨t.s.toArray⟩] 59))
                  have HBX := Lib.hid (show (w1.alloc (.cells #[.int .i64 t.kind, .int .i64 p2, .int .i64 q2, .int .i64 t.n, .string ⟨t.s.toArray⟩] 59)).heap[w1.heap.size]? = some (.cells #[.int .i64 t.kind, .int .i64 p2, .int .i64 q2, .int .i64 t.n, .string ⟨t.s.toArray⟩] 59 (0, 0)) from heap_alloc_new _ _)
                  have hw1 : w.heap.size ≤ w1.heap.size := Nat.le_trans HFF.out.size hF1.size
                  clear hS1 hF1
                  unfold ctkV
                  go_wp2_with fail
                  refine (HC.out _ HS1.out).mono ?_
                  rintro e' w2 ⟨rfl, hS2, hF2⟩
                  clear e5 ef5
                  obtain ⟨e5, ef5⟩ := hS2.cell5
                  have HS2 := Lib.hid hS2
                  have HB2 := Lib.hid (hF2.tok HBX.out (by decide) (by decide))
                  have HF2 := Lib.hid (HF1.out.trans hF2)
                  have hl2 : w1.heap.size < w2.heap.size := by have := hF2.size; simp at this; omega
                  obtain ⟨g, hg⟩ : ∃ g, w1.heap.size = g := ⟨_, rfl⟩
                  rw [hg] at HB2 hl2 hw1
                  clear hS2 hF2 HBX HF1 HS1 HC
                  go_wp2_with fail
                  try rw [hg]
                  clear hg
                  refine (HN2.out _ HS2.out).mono ?_
                  rintro e' w3 ⟨k0, k1, k2, k3, s4, rfl, hE3, hF3⟩
                  clear e5 ef5
                  obtain ⟨y0, y1, y2, y3, y4, yf⟩ := box_five HB2.out hF3
                  have HT3 : TokB w3 g := ⟨_, _, hF3.tok HB2.out (by decide) (by decide)⟩
                  have HE3 := Lib.hid (hE3.toks HT3 (.int .i64 k0) (.int .i64 k1) (.int .i64 k2) (.int .i64 k3) (.string s4))
                  have HF3 := Lib.hid ((HF2.out.trans hF3).toks hw1 (.int .i64 k0) (.int .i64 k1) (.int .i64 k2) (.int .i64 k3) (.string s4))
                  have hl3 := hE3.lt
                  clear hE3 hF3 HT3
                  go_wp2_with fail
                  refine (rtext_err B r k k0 k1 k2 k3 s4 _ HE3.out).mono ?_
                  rintro e' w4 ⟨rfl, hE4, hF4⟩
                  have HF4 := Lib.hid (HF3.out.trans hF4)
                  have HE4 := Lib.hid hE4
                  clear hE4 hF4 y0 y1 y2 y3 y4 yf
                  go_wp2_with fail
                  refine (rtell_err B r k c ⟨#[]⟩ _ HE4.out).mono ?_
                  rintro e' w5 ⟨rfl, hE5, hF5⟩
                  have HH := Lib.hid (And.intro hE5 (HF4.out.trans hF5))
                  clear hE5 hF5
                  go_wp2
                  go_roundg f
                  case measure => omega
                  case rel => exact ⟨Lib.hid HH.out.2, Lib.hid (.inr ⟨k, HH.out.1, HSE.out⟩)⟩
              | good tt2 =>
                obtain ⟨t3, l3⟩ := tt2
                obtain ⟨p3, q3, m1, m2, m3, m4, m5, rfl⟩ := nextS_pos hnx2 n5
                have htl3 : t3.s.length ≤ 1000000 := Nat.le_trans (cnextT_short m1) (by decide)
                have hq3 : q2 < q3 := by
                  have := (nextS_shorter hnx2).1
                  have h2 : s.data.toList.length = s.size := by simp
                  rw [List.length_drop, List.length_drop, h2] at this; omega
                have HN2 := Lib.hid (fun W hS => rnx_good B r s q2 p3 σ1 true t3 n5 (by omega) W hS m1 m3 (fun _ => m2))
                simp only [m4] at HN2
                have HT := Lib.hid (fun W hS => rtext_in B r s q3 p3 q3 σ1 t3 W hS htl3)
                cases hxx : textC t3 with
                | bad k =>
                  rw [hxx] at HT
                  have HSE := Lib.hid (show R = .bad k by rw [← hpc, partC_rbad hnx hend (by rw [HRW.out, hnx2]; dsimp only; rw [hxx])])
                  clear hnx hnx2 n1 n2 n3 n4 m1 m2 m3 m4 hSr HX hpc hend hcd HRW hxx
                  rcases htot with k6 | ⟨k6, s9⟩
                  all_goals
                    go_wp2_with fail
                    refine HNX.out.mono ?_
                    rintro e' w1 ⟨rfl, hS1, hF1⟩
                    clear e5 ef5
                    obtain ⟨e5, ef5⟩ := hS1.cell5
                    have hl1 := hS1.lt
                    have HF1 := Lib.hid ((HFF.out.trans hF1).alloc (.cells #[.int .i64 t.kind, .int .i64 p2, .int .i64 q2, .int .i64 t.n, .string ⟨t.s.toArray⟩] 59))
                    have HS1 := Lib.hid (hS1.alloc (.cells #[.int .i64 t.kind, .int .i64 p2, .int .i64 q2, .int .i64 t.n, .string ⟨t.s.toArray⟩] 59))
                    have HBX := Lib.hid (show (w1.alloc (.cells #[.int .i64 t.kind, .int .i64 p2, .int .i64 q2, .int .i64 t.n, .string ⟨t.s.toArray⟩] 59)).heap[w1.heap.size]? = some (.cells #[.int .i64 t.kind, .int .i64 p2, .int .i64 q2, .int .i64 t.n, .string ⟨t.s.toArray⟩] 59 (0, 0)) from heap_alloc_new _ _)
                    have hw1 : w.heap.size ≤ w1.heap.size := Nat.le_trans HFF.out.size hF1.size
                    clear hS1 hF1
                    unfold ctkV
                    go_wp2_with fail
                    refine (HC.out _ HS1.out).mono ?_
                    rintro e' w2 ⟨rfl, hS2, hF2⟩
                    clear e5 ef5
                    obtain ⟨e5, ef5⟩ := hS2.cell5
                    have HS2 := Lib.hid hS2
                    have HB2 := Lib.hid (hF2.tok HBX.out (by decide) (by decide))
                    have HF2 := Lib.hid (HF1.out.trans hF2)
                    have hl2 : w1.heap.size < w2.heap.size := by have := hF2.size; simp at this; omega
                    obtain ⟨g, hg⟩ : ∃ g, w1.heap.size = g := ⟨_, rfl⟩
                    rw [hg] at HB2 hl2 hw1
                    clear hS2 hF2 HBX HF1 HS1 HC
                    go_wp2_with fail
                    try rw [hg]
                    clear hg
                    refine (HN2.out _ HS2.out).mono ?_
                    rintro e' w3 ⟨rfl, hE3, hF3⟩
                    clear e5 ef5
                    obtain ⟨y0, y1, y2, y3, y4, yf⟩ := box_five HB2.out hF3
                    have HT3 : TokB w3 g := ⟨_, _, hF3.tok HB2.out (by decide) (by decide)⟩
                    have HE3 := Lib.hid (hE3.toks HT3 (.int .i64 t3.kind) (.int .i64 p3) (.int .i64 q3) (.int .i64 t3.n) (.string ⟨t3.s.toArray⟩))
                    have HB3 := Lib.hid (toks_box (hF3.tok HB2.out (by decide) (by decide)) (.int .i64 t3.kind) (.int .i64 p3) (.int .i64 q3) (.int .i64 t3.n) (.string ⟨t3.s.toArray⟩))
                    have HF3 := Lib.hid ((HF2.out.trans hF3).toks hw1 (.int .i64 t3.kind) (.int .i64 p3) (.int .i64 q3) (.int .i64 t3.n) (.string ⟨t3.s.toArray⟩))
                    have hl3 := hE3.lt
                    clear hE3 hF3 HT3
                    unfold ctkV
                    go_wp2_with fail
                    refine (HT.out _ HE3.out).mono ?_
                    rintro e' w4 ⟨rfl, hE4, hF4⟩
                    have HF4 := Lib.hid (HF3.out.trans hF4)
                    have HE4 := Lib.hid hE4
                    clear hE4 hF4 y0 y1 y2 y3 y4 yf
                    go_wp2_with fail
                    refine (rtell_err B r k c ⟨#[]⟩ _ HE4.out).mono ?_
                    rintro e' w5 ⟨rfl, hE5, hF5⟩
                    have HH := Lib.hid (And.intro hE5 (HF4.out.trans hF5))
                    clear hE5 hF5
                    go_wp2
                    go_roundg f
                    case measure => omega
                    case rel => exact ⟨Lib.hid HH.out.2, Lib.hid (.inr ⟨k, HH.out.1, HSE.out⟩)⟩
                | good xv =>
                  rw [hxx] at HT
                  have HTE := Lib.hid (fun W (hS : RS B W r s q3 σ1) => rtell_in B r s q3 σ1 c xv hc0 (by omega) W hS (Nat.le_trans hS.base (Nat.le_of_lt hS.lt)))
                  have HRW2 := Lib.hid (show rowC 1 t (s.data.toList.drop q2) σb = behindC (s.data.toList.drop q3) (tellC σ1 c xv) by rw [HRW.out, hnx2]; dsimp only; rw [hxx])
                  cases hte : tellC σ1 c xv with
                  | bad k =>
                    rw [hte] at HTE
                    have HSE := Lib.hid (show R = .bad k by rw [← hpc, partC_rbad hnx hend (by rw [HRW2.out, hte]; rfl)])
                    clear hnx hnx2 n1 n2 n3 n4 m1 m2 m3 m4 hSr HX hpc hend hcd HRW hxx HRW2 hte
                    rcases htot with k6 | ⟨k6, s9⟩
                    all_goals
                      go_wp2_with fail
                      refine HNX.out.mono ?_
                      rintro e' w1 ⟨rfl, hS1, hF1⟩
                      clear e5 ef5
                      obtain ⟨e5, ef5⟩ := hS1.cell5
                      have hl1 := hS1.lt
                      have HF1 := Lib.hid ((HFF.out.trans hF1).alloc (.cells #[.int .i64 t.kind, .int .i64 p2, .int .i64 q2, .int .i64 t.n, .string ⟨t.s.toArray⟩] 59))
                      have HS1 := Lib.hid (hS1.alloc (.cells #[.int .i64 t.kind, .int .i64 p2, .int .i64 q2, .int .i64 t.n, .string ⟨t.s.toArray⟩] 59))
                      have HBX := Lib.hid (show (w1.alloc (.cells #[.int .i64 t.kind, .int .i64 p2, .int .i64 q2, .int .i64 t.n, .string ⟨t.s.toArray⟩] 59)).heap[w1.heap.size]? = some (.cells #[.int .i64 t.kind, .int .i64 p2, .int .i64 q2, .int .i64 t.n, .string ⟨t.s.toArray⟩] 59 (0, 0)) from heap_alloc_new _ _)
                      have hw1 : w.heap.size ≤ w1.heap.size := Nat.le_trans HFF.out.size hF1.size
                      clear hS1 hF1
                      unfold ctkV
                      go_wp2_with fail
                      refine (HC.out _ HS1.out).mono ?_
                      rintro e' w2 ⟨rfl, hS2, hF2⟩
                      clear e5 ef5
                      obtain ⟨e5, ef5⟩ := hS2.cell5
                      have HS2 := Lib.hid hS2
                      have HB2 := Lib.hid (hF2.tok HBX.out (by decide) (by decide))
                      have HF2 := Lib.hid (HF1.out.trans hF2)
                      have hl2 : w1.heap.size < w2.heap.size := by have := hF2.size; simp at this; omega
                      obtain ⟨g, hg⟩ : ∃ g, w1.heap.size = g := ⟨_, rfl⟩
                      rw [hg] at HB2 hl2 hw1
                      clear hS2 hF2 HBX HF1 HS1 HC
                      go_wp2_with fail
                      try rw [hg]
                      clear hg
                      refine (HN2.out _ HS2.out).mono ?_
                      rintro e' w3 ⟨rfl, hE3, hF3⟩
                      clear e5 ef5
                      obtain ⟨y0, y1, y2, y3, y4, yf⟩ := box_five HB2.out hF3
                      have HT3 : TokB w3 g := ⟨_, _, hF3.tok HB2.out (by decide) (by decide)⟩
                      have HE3 := Lib.hid (hE3.toks HT3 (.int .i64 t3.kind) (.int .i64 p3) (.int .i64 q3) (.int .i64 t3.n) (.string ⟨t3.s.toArray⟩))
                      have HB3 := Lib.hid (toks_box (hF3.tok HB2.out (by decide) (by decide)) (.int .i64 t3.kind) (.int .i64 p3) (.int .i64 q3) (.int .i64 t3.n) (.string ⟨t3.s.toArray⟩))
                      have HF3 := Lib.hid ((HF2.out.trans hF3).toks hw1 (.int .i64 t3.kind) (.int .i64 p3) (.int .i64 q3) (.int .i64 t3.n) (.string ⟨t3.s.toArray⟩))
                      have hl3 := hE3.lt
                      clear hE3 hF3 HT3
                      unfold ctkV
                      go_wp2_with fail
                      refine (HT.out _ HE3.out).mono ?_
                      rintro e' w4 ⟨rfl, hE4, hF4⟩
                      have HF4 := Lib.hid (HF3.out.trans hF4)
                      have HE4 := Lib.hid hE4
                      clear hE4 hF4 y0 y1 y2 y3 y4 yf
                      go_wp2_with fail
                      refine (HTE.out _ HE4.out).mono ?_
                      rintro e' w5 ⟨rfl, hE5, hF5⟩
                      have HH := Lib.hid (And.intro hE5 (HF4.out.trans hF5))
                      clear hE5 hF5
                      go_wp2
                      go_roundg f
                      case measure => omega
                      case rel => exact ⟨Lib.hid HH.out.2, Lib.hid (.inr ⟨k, HH.out.1, HSE.out⟩)⟩
                  | good σ2 =>
                    rw [hte] at HTE
                    have HSE := Lib.hid (show partC 1 f (s.data.toList.drop q3) σ2 = R by rw [← hpc, partC_more hnx hend (by rw [HRW2.out, hte]; rfl)])
                    clear hnx hnx2 n1 n2 n3 n4 m1 m2 m3 m4 hSr HX hpc hend hcd HRW hxx HRW2 hte
                    rcases htot with k6 | ⟨k6, s9⟩
                    all_goals
                      go_wp2_with fail
                      refine HNX.out.mono ?_
                      rintro e' w1 ⟨rfl, hS1, hF1⟩
                      clear e5 ef5
                      obtain ⟨e5, ef5⟩ := hS1.cell5
                      have hl1 := hS1.lt
                      have HF1 := Lib.hid ((HFF.out.trans hF1).alloc (.cells #[.int .i64 t.kind, .int .i64 p2, .int .i64 q2, .int .i64 t.n, .string ⟨t.s.toArray⟩] 59))
                      have HS1 := Lib.hid (hS1.alloc (.cells #[.int .i64 t.kind, .int .i64 p2, .int .i64 q2, .int .i64 t.n, .string ⟨t.s.toArray⟩] 59))
                      have HBX := Lib.hid (show (w1.alloc (.cells #[.int .i64 t.kind, .int .i64 p2, .int .i64 q2, .int .i64 t.n, .string ⟨t.s.toArray⟩] 59)).heap[w1.heap.size]? = some (.cells #[.int .i64 t.kind, .int .i64 p2, .int .i64 q2, .int .i64 t.n, .string ⟨t.s.toArray⟩] 59 (0, 0)) from heap_alloc_new _ _)
                      have hw1 : w.heap.size ≤ w1.heap.size := Nat.le_trans HFF.out.size hF1.size
                      clear hS1 hF1
                      unfold ctkV
                      go_wp2_with fail
                      refine (HC.out _ HS1.out).mono ?_
                      rintro e' w2 ⟨rfl, hS2, hF2⟩
                      clear e5 ef5
                      obtain ⟨e5, ef5⟩ := hS2.cell5
                      have HS2 := Lib.hid hS2
                      have HB2 := Lib.hid (hF2.tok HBX.out (by decide) (by decide))
                      have HF2 := Lib.hid (HF1.out.trans hF2)
                      have hl2 : w1.heap.size < w2.heap.size := by have := hF2.size; simp at this; omega
                      obtain ⟨g, hg⟩ : ∃ g, w1.heap.size = g := ⟨_, rfl⟩
                      rw [hg] at HB2 hl2 hw1
                      clear hS2 hF2 HBX HF1 HS1 HC
                      go_wp2_with fail
                      try rw [hg]
                      clear hg
                      refine (HN2.out _ HS2.out).mono ?_
                      rintro e' w3 ⟨rfl, hE3, hF3⟩
                      clear e5 ef5
                      obtain ⟨y0, y1, y2, y3, y4, yf⟩ := box_five HB2.out hF3
                      have HT3 : TokB w3 g := ⟨_, _, hF3.tok HB2.out (by decide) (by decide)⟩
                      have HE3 := Lib.hid (hE3.toks HT3 (.int .i64 t3.kind) (.int .i64 p3) (.int .i64 q3) (.int .i64 t3.n) (.string ⟨t3.s.toArray⟩))
                      have HB3 := Lib.hid (toks_box (hF3.tok HB2.out (by decide) (by decide)) (.int .i64 t3.kind) (.int .i64 p3) (.int .i64 q3) (.int .i64 t3.n) (.string ⟨t3.s.toArray⟩))
                      have HF3 := Lib.hid ((HF2.out.trans hF3).toks hw1 (.int .i64 t3.kind) (.int .i64 p3) (.int .i64 q3) (.int .i64 t3.n) (.string ⟨t3.s.toArray⟩))
                      have hl3 := hE3.lt
                      clear hE3 hF3 HT3
                      unfold ctkV
                      go_wp2_with fail
                      refine (HT.out _ HE3.out).mono ?_
                      rintro e' w4 ⟨rfl, hE4, hF4⟩
                      have HF4 := Lib.hid (HF3.out.trans hF4)
                      have HE4 := Lib.hid hE4
                      clear hE4 hF4 y0 y1 y2 y3 y4 yf
                      go_wp2_with fail
                      refine (HTE.out _ HE4.out).mono ?_
                      rintro e' w5 ⟨rfl, hE5, hF5⟩
                      have HH := Lib.hid (And.intro hE5 (HF4.out.trans hF5))
                      clear hE5 hF5
                      go_wp2
                      go_roundg f
                      case measure => omega
                      case rel => exact ⟨Lib.hid HH.out.2, Lib.hid (.inl ⟨q3, σ2, m5, by omega, HH.out.1, HSE.out⟩)⟩
            | 0, _ =>
              have nc : (P == [99, 111, 100, 101, 115, 112, 97, 99, 101, 114, 97, 110, 103, 101]) = true := by rw [← HPP.out]; decide
              have HRW := Lib.hid (rowC_span (l := s.data.toList.drop q2) (.inl rfl) hcd)
              have nb : (P == [98, 102, 99, 104, 97, 114]) = false := by rw [← HPP.out]; decide
              cases hnx2 : nextS (s.data.toList.drop q2) with
              | bad k =>
                have HN2 := Lib.hid (fun W hS => rnx_in B r s q2 σ1 n5 (by omega) W hS k hnx2)
                have HSE := Lib.hid (show R = .bad k by rw [← hpc, partC_rbad hnx hend (by rw [HRW.out, hnx2])])
                clear hnx hnx2 n1 n2 n3 n4 hSr HX hpc hend hcd HRW
                rcases htot with k6 | ⟨k6, s9⟩
                all_goals
                  go_wp2_with fail
                  refine HNX.out.mono ?_
                  rintro e' w1 ⟨rfl, hS1, hF1⟩
                  clear e5 ef5
                  obtain ⟨e5, ef5⟩ := hS1.cell5
                  have hl1 := hS1.lt
                  have HF1 := Lib.hid ((HFF.out.trans hF1).alloc (.cells #[.int .i64 t.kind, .int .i64 p2, .int .i64 q2, .int .i64 t.n, .string ⟨t.s.toArray⟩] 59))
                  have HS1 := Lib.hid (hS1.alloc (.cells #[.int .i64 t.kind, .int .i64 p2, .int .i64 q2, .int .i64 t.n, .string ⟨t.s.toArray⟩] 59))
                  have HBX := Lib.hid (show (w1.alloc (.cells #[.int .i64 t.kind, .int .i64 p2, .int .i64 q2, .int .i64 t.n, .string ⟨t.s.toArray⟩] 59)).heap[w1.heap.size]? = some (.cells #[.int .i64 t.kind, .int .i64 p2, .int .i64 q2, .int .i64 t.n, .string ⟨t.s.toArray⟩] 59 (0, 0)) from heap_alloc_new _ _)
                  have hw1 : w.heap.size ≤ w1.heap.size := Nat.le_trans HFF.out.size hF1.size
                  clear hS1 hF1
                  unfold ctkV
                  go_wp2_with fail
                  refine (HC.out _ HS1.out).mono ?_
                  rintro e' w2 ⟨rfl, hS2, hF2⟩
                  clear e5 ef5
                  obtain ⟨e5, ef5⟩ := hS2.cell5
                  have HS2 := Lib.hid hS2
                  have HB2 := Lib.hid (hF2.tok HBX.out (by decide) (by decide))
                  have HF2 := Lib.hid (HF1.out.trans hF2)
                  have hl2 : w1.heap.size < w2.heap.size := by have := hF2.size; simp at this; omega
                  obtain ⟨g, hg⟩ : ∃ g, w1.heap.size = g := ⟨_, rfl⟩
                  rw [hg] at HB2 hl2 hw1
                  clear hS2 hF2 HBX HF1 HS1 HC
                  go_wp2_with fail
                  try rw [hg]
                  clear hg
                  refine (HN2.out _ HS2.out).mono ?_
                  rintro e' w3 ⟨k0, k1, k2, k3, s4, rfl, hE3, hF3⟩
                  clear e5 ef5
                  obtain ⟨y0, y1, y2, y3, y4, yf⟩ := box_five HB2.out hF3
                  have HT3 : TokB w3 g := ⟨_, _, hF3.tok HB2.out (by decide) (by decide)⟩
                  have HE3 := Lib.hid (hE3.toks HT3 (.int .i64 k0) (.int .i64 k1) (.int .i64 k2) (.int .i64 k3) (.string s4))
                  have HF3 := Lib.hid ((HF2.out.trans hF3).toks hw1 (.int .i64 k0) (.int .i64 k1) (.int .i64 k2) (.int .i64 k3) (.string s4))
                  have hl3 := hE3.lt
                  clear hE3 hF3 HT3
                  go_wp2_with fail
                  refine (rcode_err B r k k0 k1 k2 k3 s4 _ HE3.out).mono ?_
                  rintro e' w4 ⟨rfl, hE4, hF4⟩
                  obtain ⟨e5, ef5⟩ := hE4.cell5
                  have ek : (k == 0) = false := by simpa using hE4.2.1
                  have ek2 : (k != 0) = true := by simpa using hE4.2.1
                  have HH := Lib.hid (And.intro hE4 (HF3.out.trans hF4))
                  clear hE4 hF4 y0 y1 y2 y3 y4 yf
                  go_wp2
                  go_roundg f
                  case measure => omega
                  case rel => exact ⟨Lib.hid HH.out.2, Lib.hid (.inr ⟨k, HH.out.1, HSE.out⟩)⟩
              | good tt2 =>
                obtain ⟨t3, l3⟩ := tt2
                obtain ⟨p3, q3, m1, m2, m3, m4, m5, rfl⟩ := nextS_pos hnx2 n5
                have htl3 : t3.s.length ≤ 1000000 := Nat.le_trans (cnextT_short m1) (by decide)
                have hq3 : q2 < q3 := by
                  have := (nextS_shorter hnx2).1
                  have h2 : s.data.toList.length = s.size := by simp
                  rw [List.length_drop, List.length_drop, h2] at this; omega
                have HN2 := Lib.hid (fun W hS => rnx_good B r s q2 p3 σ1 true t3 n5 (by omega) W hS m1 m3 (fun _ => m2))
                simp only [m4] at HN2
                have HT := Lib.hid (fun W hS => rcode_in B r s q3 p3 q3 σ1 t3 W hS htl3)
                cases hxx : codeC σ1 t3 with
                | bad k =>
                  rw [hxx] at HT
                  have HSE := Lib.hid (show R = .bad k by rw [← hpc, partC_rbad hnx hend (by rw [HRW.out, hnx2]; dsimp only; rw [hxx])])
                  clear hnx hnx2 n1 n2 n3 n4 m1 m2 m3 m4 hSr HX hpc hend hcd HRW hxx
                  rcases htot with k6 | ⟨k6, s9⟩
                  all_goals
                    go_wp2_with fail
                    refine HNX.out.mono ?_
                    rintro e' w1 ⟨rfl, hS1, hF1⟩
                    clear e5 ef5
                    obtain ⟨e5, ef5⟩ := hS1.cell5
                    have hl1 := hS1.lt
                    have HF1 := Lib.hid ((HFF.out.trans hF1).alloc (.cells #[.int .i64 t.kind, .int .i64 p2, .int .i64 q2, .int .i64 t.n, .string ⟨t.s.toArray⟩] 59))
                    have HS1 := Lib.hid (hS1.alloc (.cells #[.int .i64 t.kind, .int .i64 p2, .int .i64 q2, .int .i64 t.n, .string ⟨t.s.toArray⟩] 59))
                    have HBX := Lib.hid (show (w1.alloc (.cells #[.int .i64 t.kind, .int .i64 p2, .int .i64 q2, .int .i64 t.n, .string ⟨t.s.toArray⟩] 59)).heap[w1.heap.size]? = some (.cells #[.int .i64 t.kind, .int .i64 p2, .int .i64 q2, .int .i64 t.n, .string ⟨t.s.toArray⟩] 59 (0, 0)) from heap_alloc_new _ _)
                    have hw1 : w.heap.size ≤ w1.heap.size := Nat.le_trans HFF.out.size hF1.size
                    clear hS1 hF1
                    unfold ctkV
                    go_wp2_with fail
                    refine (HC.out _ HS1.out).mono ?_
                    rintro e' w2 ⟨rfl, hS2, hF2⟩
                    clear e5 ef5
                    obtain ⟨e5, ef5⟩ := hS2.cell5
                    have HS2 := Lib.hid hS2
                    have HB2 := Lib.hid (hF2.tok HBX.out (by decide) (by decide))
                    have HF2 := Lib.hid (HF1.out.trans hF2)
                    have hl2 : w1.heap.size < w2.heap.size := by have := hF2.size; simp at this; omega
                    obtain ⟨g, hg⟩ : ∃ g, w1.heap.size = g := ⟨_, rfl⟩
                    rw [hg] at HB2 hl2 hw1
                    clear hS2 hF2 HBX HF1 HS1 HC
                    go_wp2_with fail
                    try rw [hg]
                    clear hg
                    refine (HN2.out _ HS2.out).mono ?_
                    rintro e' w3 ⟨rfl, hE3, hF3⟩
                    clear e5 ef5
                    obtain ⟨y0, y1, y2, y3, y4, yf⟩ := box_five HB2.out hF3
                    have HT3 : TokB w3 g := ⟨_, _, hF3.tok HB2.out (by decide) (by decide)⟩
                    have HE3 := Lib.hid (hE3.toks HT3 (.int .i64 t3.kind) (.int .i64 p3) (.int .i64 q3) (.int .i64 t3.n) (.string ⟨t3.s.toArray⟩))
                    have HB3 := Lib.hid (toks_box (hF3.tok HB2.out (by decide) (by decide)) (.int .i64 t3.kind) (.int .i64 p3) (.int .i64 q3) (.int .i64 t3.n) (.string ⟨t3.s.toArray⟩))
                    have HF3 := Lib.hid ((HF2.out.trans hF3).toks hw1 (.int .i64 t3.kind) (.int .i64 p3) (.int .i64 q3) (.int .i64 t3.n) (.string ⟨t3.s.toArray⟩))
                    have hl3 := hE3.lt
                    clear hE3 hF3 HT3
                    unfold ctkV
                    go_wp2_with fail
                    refine (HT.out _ HE3.out).mono ?_
                    rintro e' w4 ⟨rfl, hE4, hF4⟩
                    obtain ⟨e5, ef5⟩ := hE4.cell5
                    have ek : (k == 0) = false := by simpa using hE4.2.1
                    have ek2 : (k != 0) = true := by simpa using hE4.2.1
                    have HH := Lib.hid (And.intro hE4 (HF3.out.trans hF4))
                    clear hE4 hF4 y0 y1 y2 y3 y4 yf
                    go_wp2
                    go_roundg f
                    case measure => omega
                    case rel => exact ⟨Lib.hid HH.out.2, Lib.hid (.inr ⟨k, HH.out.1, HSE.out⟩)⟩
                | good dd =>
                  obtain ⟨σ2, d⟩ := dd
                  rw [hxx] at HT
                  obtain ⟨_, _, hd0, hd1⟩ := codeC_keep hxx
                  by_cases hle : c ≤ d
                  rotate_left
                  · have HSE := Lib.hid (show R = .bad 3 by rw [← hpc, partC_rbad hnx hend (by rw [HRW.out, hnx2]; dsimp only; rw [hxx]; dsimp only; rw [if_neg hle])])
                    have dl : decide (d < c) = true := decide_eq_true (by omega)
                    clear hnx hnx2 n1 n2 n3 n4 m1 m2 m3 m4 hSr HX hpc hend hcd HRW hxx
                    rcases htot with k6 | ⟨k6, s9⟩
                    all_goals
                      go_wp2_with fail
                      refine HNX.out.mono ?_
                      rintro e' w1 ⟨rfl, hS1, hF1⟩
                      clear e5 ef5
                      obtain ⟨e5, ef5⟩ := hS1.cell5
                      have hl1 := hS1.lt
                      have HF1 := Lib.hid ((HFF.out.trans hF1).alloc (.cells #[.int .i64 t.kind, .int .i64 p2, .int .i64 q2, .int .i64 t.n, .string ⟨t.s.toArray⟩] 59))
                      have HS1 := Lib.hid (hS1.alloc (.cells #[.int .i64 t.kind, .int .i64 p2, .int .i64 q2, .int .i64 t.n, .string ⟨t.s.toArray⟩] 59))
                      have HBX := Lib.hid (show (w1.alloc (.cells #[.int .i64 t.kind, .int .i64 p2, .int .i64 q2, .int .i64 t.n, .string ⟨t.s.toArray⟩] 59)).heap[w1.heap.size]? = some (.cells #[.int .i64 t.kind, .int .i64 p2, .int .i64 q2, .int .i64 t.n, .string ⟨t.s.toArray⟩] 59 (0, 0)) from heap_alloc_new _ _)
                      have hw1 : w.heap.size ≤ w1.heap.size := Nat.le_trans HFF.out.size hF1.size
                      clear hS1 hF1
                      unfold ctkV
                      go_wp2_with fail
                      refine (HC.out _ HS1.out).mono ?_
                      rintro e' w2 ⟨rfl, hS2, hF2⟩
                      clear e5 ef5
                      obtain ⟨e5, ef5⟩ := hS2.cell5
                      have HS2 := Lib.hid hS2
                      have HB2 := Lib.hid (hF2.tok HBX.out (by decide) (by decide))
                      have HF2 := Lib.hid (HF1.out.trans hF2)
                      have hl2 : w1.heap.size < w2.heap.size := by have := hF2.size; simp at this; omega
                      obtain ⟨g, hg⟩ : ∃ g, w1.heap.size = g := ⟨_, rfl⟩
                      rw [hg] at HB2 hl2 hw1
                      clear hS2 hF2 HBX HF1 HS1 HC
                      go_wp2_with fail
                      try rw [hg]
                      clear hg
                      refine (HN2.out _ HS2.out).mono ?_
                      rintro e' w3 ⟨rfl, hE3, hF3⟩
                      clear e5 ef5
                      obtain ⟨y0, y1, y2, y3, y4, yf⟩ := box_five HB2.out hF3
                      have HT3 : TokB w3 g := ⟨_, _, hF3.tok HB2.out (by decide) (by decide)⟩
                      have HE3 := Lib.hid (hE3.toks HT3 (.int .i64 t3.kind) (.int .i64 p3) (.int .i64 q3) (.int .i64 t3.n) (.string ⟨t3.s.toArray⟩))
                      have HB3 := Lib.hid (toks_box (hF3.tok HB2.out (by decide) (by decide)) (.int .i64 t3.kind) (.int .i64 p3) (.int .i64 q3) (.int .i64 t3.n) (.string ⟨t3.s.toArray⟩))
                      have HF3 := Lib.hid ((HF2.out.trans hF3).toks hw1 (.int .i64 t3.kind) (.int .i64 p3) (.int .i64 q3) (.int .i64 t3.n) (.string ⟨t3.s.toArray⟩))
                      have hl3 := hE3.lt
                      clear hE3 hF3 HT3
                      unfold ctkV
                      go_wp2_with fail
                      refine (HT.out _ HE3.out).mono ?_
                      rintro e' w4 ⟨rfl, hE4, hF4⟩
                      obtain ⟨e5, ef5⟩ := hE4.cell5
                      have HG := Lib.hid (hE4.fail (k := 3) (by decide))
                      have HH := Lib.hid (And.intro HG.out.1 ((HF3.out.trans hF4).trans HG.out.2))
                      clear hE4 hF4 y0 y1 y2 y3 y4 yf
                      go_wp2
                      go_roundg f
                      case measure => omega
                      case rel => exact ⟨Lib.hid HH.out.2, Lib.hid (.inr ⟨3, HH.out.1, HSE.out⟩)⟩
                  · have dl : decide (d < c) = false := decide_eq_false (by omega)
                    have HRW2 := Lib.hid (show rowC 0 t (s.data.toList.drop q2) σb = behind2 0 c d σ2 (s.data.toList.drop q3) by rw [HRW.out, hnx2]; dsimp only; rw [hxx]; dsimp only; rw [if_pos hle])
                    have HSE := Lib.hid (show partC 0 f (s.data.toList.drop q3) σ2 = R by rw [← hpc, partC_more hnx hend (by rw [HRW2.out]; rfl)])
                    clear hnx hnx2 n1 n2 n3 n4 m1 m2 m3 m4 hSr HX hpc hend hcd HRW hxx HRW2
                    rcases htot with k6 | ⟨k6, s9⟩
                    all_goals
                      go_wp2_with fail
                      refine HNX.out.mono ?_
                      rintro e' w1 ⟨rfl, hS1, hF1⟩
                      clear e5 ef5
                      obtain ⟨e5, ef5⟩ := hS1.cell5
                      have hl1 := hS1.lt
                      have HF1 := Lib.hid ((HFF.out.trans hF1).alloc (.cells #[.int .i64 t.kind, .int .i64 p2, .int .i64 q2, .int .i64 t.n, .string ⟨t.s.toArray⟩] 59))
                      have HS1 := Lib.hid (hS1.alloc (.cells #[.int .i64 t.kind, .int .i64 p2, .int .i64 q2, .int .i64 t.n, .string ⟨t.s.toArray⟩] 59))
                      have HBX := Lib.hid (show (w1.alloc (.cells #[.int .i64 t.kind, .int .i64 p2, .int .i64 q2, .int .i64 t.n, .string ⟨t.s.toArray⟩] 59)).heap[w1.heap.size]? = some (.cells #[.int .i64 t.kind, .int .i64 p2, .int .i64 q2, .int .i64 t.n, .string ⟨t.s.toArray⟩] 59 (0, 0)) from heap_alloc_new _ _)
                      have hw1 : w.heap.size ≤ w1.heap.size := Nat.le_trans HFF.out.size hF1.size
                      clear hS1 hF1
                      unfold ctkV
                      go_wp2_with fail
                      refine (HC.out _ HS1.out).mono ?_
                      rintro e' w2 ⟨rfl, hS2, hF2⟩
                      clear e5 ef5
                      obtain ⟨e5, ef5⟩ := hS2.cell5
                      have HS2 := Lib.hid hS2
                      have HB2 := Lib.hid (hF2.tok HBX.out (by decide) (by decide))
                      have HF2 := Lib.hid (HF1.out.trans hF2)
                      have hl2 : w1.heap.size < w2.heap.size := by have := hF2.size; simp at this; omega
                      obtain ⟨g, hg⟩ : ∃ g, w1.heap.size = g := ⟨_, rfl⟩
                      rw [hg] at HB2 hl2 hw1
                      clear hS2 hF2 HBX HF1 HS1 HC
                      go_wp2_with fail
                      try rw [hg]
                      clear hg
                      refine (HN2.out _ HS2.out).mono ?_
                      rintro e' w3 ⟨rfl, hE3, hF3⟩
                      clear e5 ef5
                      obtain ⟨y0, y1, y2, y3, y4, yf⟩ := box_five HB2.out hF3
                      have HT3 : TokB w3 g := ⟨_, _, hF3.tok HB2.out (by decide) (by decide)⟩
                      have HE3 := Lib.hid (hE3.toks HT3 (.int .i64 t3.kind) (.int .i64 p3) (.int .i64 q3) (.int .i64 t3.n) (.string ⟨t3.s.toArray⟩))
                      have HB3 := Lib.hid (toks_box (hF3.tok HB2.out (by decide) (by decide)) (.int .i64 t3.kind) (.int .i64 p3) (.int .i64 q3) (.int .i64 t3.n) (.string ⟨t3.s.toArray⟩))
                      have HF3 := Lib.hid ((HF2.out.trans hF3).toks hw1 (.int .i64 t3.kind) (.int .i64 p3) (.int .i64 q3) (.int .i64 t3.n) (.string ⟨t3.s.toArray⟩))
                      have hl3 := hE3.lt
                      clear hE3 hF3 HT3
                      unfold ctkV
                      go_wp2_with fail
                      refine (HT.out _ HE3.out).mono ?_
                      rintro e' w4 ⟨rfl, hE4, hF4⟩
                      obtain ⟨e5, ef5⟩ := hE4.cell5
                      have HH := Lib.hid (And.intro hE4 (HF3.out.trans hF4))
                      clear hE4 hF4 y0 y1 y2 y3 y4 yf
                      go_wp2
                      go_roundg f
                      case measure => omega
                      case rel => exact ⟨Lib.hid HH.out.2, Lib.hid (.inl ⟨q3, σ2, m5, by omega, HH.out.1, HSE.out⟩)⟩
            | 2, _ =>
              have nc : (P == [99, 111, 100, 101, 115, 112, 97, 99, 101, 114, 97, 110, 103, 101]) = false := by rw [← HPP.out]; decide
              have HRW := Lib.hid (rowC_span (l := s.data.toList.drop q2) (.inr rfl) hcd)
              have nb : (P == [98, 102, 99, 104, 97, 114]) = false := by rw [← HPP.out]; decide
              cases hnx2 : nextS (s.data.toList.drop q2) with
              | bad k =>
                have HN2 := Lib.hid (fun W hS => rnx_in B r s q2 σ1 n5 (by omega) W hS k hnx2)
                have HSE := Lib.hid (show R = .bad k by rw [← hpc, partC_rbad hnx hend (by rw [HRW.out, hnx2])])
                clear hnx hnx2 n1 n2 n3 n4 hSr HX hpc hend hcd HRW
                rcases htot with k6 | ⟨k6, s9⟩
                all_goals
                  go_wp2_with fail
                  refine HNX.out.mono ?_
                  rintro e' w1 ⟨rfl, hS1, hF1⟩
                  clear e5 ef5
                  obtain ⟨e5, ef5⟩ := hS1.cell5
                  have hl1 := hS1.lt
                  have HF1 := Lib.hid ((HFF.out.trans hF1).alloc (.cells #[.int .i64 t.kind, .int .i64 p2, .int .i64 q2, .int .i64 t.n, .string ⟨t.s.toArray⟩] 59))
                  have HS1 := Lib.hid (hS1.alloc (.cells #[.int .i64 t.kind, .int .i64 p2, .int .i64 q2, .int .i64 t.n, .string ⟨t.s.toArray⟩] 59))
                  have HBX := Lib.hid (show (w1.alloc (.cells #[.int .i64 t.kind, .int .i64 p2, .int .i64 q2, .int .i64 t.n, .string ⟨t.s.toArray⟩] 59)).heap[w1.heap.size]? = some (.cells #[.int .i64 t.kind, .int .i64 p2, .int .i64 q2, .int .i64 t.n, .string ⟨t.s.toArray⟩] 59 (0, 0)) from heap_alloc_new _ _)
                  have hw1 : w.heap.size ≤ w1.heap.size := Nat.le_trans HFF.out.size hF1.size
                  clear hS1 hF1
                  unfold ctkV
                  go_wp2_with fail
                  refine (HC.out _ HS1.out).mono ?_
                  rintro e' w2 ⟨rfl, hS2, hF2⟩
                  clear e5 ef5
                  obtain ⟨e5, ef5⟩ := hS2.cell5
                  have HS2 := Lib.hid hS2
                  have HB2 := Lib.hid (hF2.tok HBX.out (by decide) (by decide))
                  have HF2 := Lib.hid (HF1.out.trans hF2)
                  have hl2 : w1.heap.size < w2.heap.size := by have := hF2.size; simp at this; omega
                  obtain ⟨g, hg⟩ : ∃ g, w1.heap.size = g := ⟨_, rfl⟩
                  rw [hg] at HB2 hl2 hw1
                  clear hS2 hF2 HBX HF1 HS1 HC
                  go_wp2_with fail
                  try rw [hg]
                  clear hg
                  refine (HN2.out _ HS2.out).mono ?_
                  rintro e' w3 ⟨k0, k1, k2, k3, s4, rfl, hE3, hF3⟩
                  clear e5 ef5
                  obtain ⟨y0, y1, y2, y3, y4, yf⟩ := box_five HB2.out hF3
                  have HT3 : TokB w3 g := ⟨_, _, hF3.tok HB2.out (by decide) (by decide)⟩
                  have HE3 := Lib.hid (hE3.toks HT3 (.int .i64 k0) (.int .i64 k1) (.int .i64 k2) (.int .i64 k3) (.string s4))
                  have HF3 := Lib.hid ((HF2.out.trans hF3).toks hw1 (.int .i64 k0) (.int .i64 k1) (.int .i64 k2) (.int .i64 k3) (.string s4))
                  have hl3 := hE3.lt
                  clear hE3 hF3 HT3
                  go_wp2_with fail
                  refine (rcode_err B r k k0 k1 k2 k3 s4 _ HE3.out).mono ?_
                  rintro e' w4 ⟨rfl, hE4, hF4⟩
                  obtain ⟨e5, ef5⟩ := hE4.cell5
                  have ek : (k == 0) = false := by simpa using hE4.2.1
                  have ek2 : (k != 0) = true := by simpa using hE4.2.1
                  have HH := Lib.hid (And.intro hE4 (HF3.out.trans hF4))
                  clear hE4 hF4 y0 y1 y2 y3 y4 yf
                  go_wp2
                  go_roundg f
                  case measure => omega
                  case rel => exact ⟨Lib.hid HH.out.2, Lib.hid (.inr ⟨k, HH.out.1, HSE.out⟩)⟩
              | good tt2 =>
                obtain ⟨t3, l3⟩ := tt2
                obtain ⟨p3, q3, m1, m2, m3, m4, m5, rfl⟩ := nextS_pos hnx2 n5
                have htl3 : t3.s.length ≤ 1000000 := Nat.le_trans (cnextT_short m1) (by decide)
                have hq3 : q2 < q3 := by
                  have := (nextS_shorter hnx2).1
                  have h2 : s.data.toList.length = s.size := by simp
                  rw [List.length_drop, List.length_drop, h2] at this; omega
                have HN2 := Lib.hid (fun W hS => rnx_good B r s q2 p3 σ1 true t3 n5 (by omega) W hS m1 m3 (fun _ => m2))
                simp only [m4] at HN2
                have HT := Lib.hid (fun W hS => rcode_in B r s q3 p3 q3 σ1 t3 W hS htl3)
                cases hxx : codeC σ1 t3 with
                | bad k =>
                  rw [hxx] at HT
                  have HSE := Lib.hid (show R = .bad k by rw [← hpc, partC_rbad hnx hend (by rw [HRW.out, hnx2]; dsimp only; rw [hxx])])
                  clear hnx hnx2 n1 n2 n3 n4 m1 m2 m3 m4 hSr HX hpc hend hcd HRW hxx
                  rcases htot with k6 | ⟨k6, s9⟩
                  all_goals
                    go_wp2_with fail
                    refine HNX.out.mono ?_
                    rintro e' w1 ⟨rfl, hS1, hF1⟩
                    clear e5 ef5
                    obtain ⟨e5, ef5⟩ := hS1.cell5
                    have hl1 := hS1.lt
                    have HF1 := Lib.hid ((HFF.out.trans hF1).alloc (.cells #[.int .i64 t.kind, .int .i64 p2, .int .i64 q2, .int .i64 t.n, .string ⟨t.s.toArray⟩] 59))
                    have HS1 := Lib.hid (hS1.alloc (.cells #[.int .i64 t.kind, .int .i64 p2, .int .i64 q2, .int .i64 t.n, .string ⟨t.s.toArray⟩] 59))
                    have HBX := Lib.hid (show (w1.alloc (.cells #[.int .i64 t.kind, .int .i64 p2, .int .i64 q2, .int .i64 t.n, .string ⟨t.s.toArray⟩] 59)).heap[w1.heap.size]? = some (.cells #[.int .i64 t.kind, .int .i64 p2, .int .i64 q2, .int .i64 t.n, .string ⟨t.s.toArray⟩] 59 (0, 0)) from heap_alloc_new _ _)
                    have hw1 : w.heap.size ≤ w1.heap.size := Nat.le_trans HFF.out.size hF1.size
                    clear hS1 hF1
                    unfold ctkV
                    go_wp2_with fail
                    refine (HC.out _ HS1.out).mono ?_
                    rintro e' w2 ⟨rfl, hS2, hF2⟩
                    clear e5 ef5
                    obtain ⟨e5, ef5⟩ := hS2.cell5
                    have HS2 := Lib.hid hS2
                    have HB2 := Lib.hid (hF2.tok HBX.out (by decide) (by decide))
                    have HF2 := Lib.hid (HF1.out.trans hF2)
                    have hl2 : w1.heap.size < w2.heap.size := by have := hF2.size; simp at this; omega
                    obtain ⟨g, hg⟩ : ∃ g, w1.heap.size = g := ⟨_, rfl⟩
                    rw [hg] at HB2 hl2 hw1
                    clear hS2 hF2 HBX HF1 HS1 HC
                    go_wp2_with fail
                    try rw [hg]
                    clear hg
                    refine (HN2.out _ HS2.out).mono ?_
                    rintro e' w3 ⟨rfl, hE3, hF3⟩
                    clear e5 ef5
                    obtain ⟨y0, y1, y2, y3, y4, yf⟩ := box_five HB2.out hF3
                    have HT3 : TokB w3 g := ⟨_, _, hF3.tok HB2.out (by decide) (by decide)⟩
                    have HE3 := Lib.hid (hE3.toks HT3 (.int .i64 t3.kind) (.int .i64 p3) (.int .i64 q3) (.int .i64 t3.n) (.string ⟨t3.s.toArray⟩))
                    have HB3 := Lib.hid (toks_box (hF3.tok HB2.out (by decide) (by decide)) (.int .i64 t3.kind) (.int .i64 p3) (.int .i64 q3) (.int .i64 t3.n) (.string ⟨t3.s.toArray⟩))
                    have HF3 := Lib.hid ((HF2.out.trans hF3).toks hw1 (.int .i64 t3.kind) (.int .i64 p3) (.int .i64 q3) (.int .i64 t3.n) (.string ⟨t3.s.toArray⟩))
                    have hl3 := hE3.lt
                    clear hE3 hF3 HT3
                    unfold ctkV
                    go_wp2_with fail
                    refine (HT.out _ HE3.out).mono ?_
                    rintro e' w4 ⟨rfl, hE4, hF4⟩
                    obtain ⟨e5, ef5⟩ := hE4.cell5
                    have ek : (k == 0) = false := by simpa using hE4.2.1
                    have ek2 : (k != 0) = true := by simpa using hE4.2.1
                    have HH := Lib.hid (And.intro hE4 (HF3.out.trans hF4))
                    clear hE4 hF4 y0 y1 y2 y3 y4 yf
                    go_wp2
                    go_roundg f
                    case measure => omega
                    case rel => exact ⟨Lib.hid HH.out.2, Lib.hid (.inr ⟨k, HH.out.1, HSE.out⟩)⟩
                | good dd =>
                  obtain ⟨σ2, d⟩ := dd
                  rw [hxx] at HT
                  obtain ⟨_, _, hd0, hd1⟩ := codeC_keep hxx
                  by_cases hle : c ≤ d
                  rotate_left
                  · have HSE := Lib.hid (show R = .bad 3 by rw [← hpc, partC_rbad hnx hend (by rw [HRW.out, hnx2]; dsimp only; rw [hxx]; dsimp only; rw [if_neg hle])])
                    have dl : decide (d < c) = true := decide_eq_true (by omega)
                    clear hnx hnx2 n1 n2 n3 n4 m1 m2 m3 m4 hSr HX hpc hend hcd HRW hxx
                    rcases htot with k6 | ⟨k6, s9⟩
                    all_goals
                      go_wp2_with fail
                      refine HNX.out.mono ?_
                      rintro e' w1 ⟨rfl, hS1, hF1⟩
                      clear e5 ef5
                      obtain ⟨e5, ef5⟩ := hS1.cell5
                      have hl1 := hS1.lt
                      have HF1 := Lib.hid ((HFF.out.trans hF1).alloc (.cells #[.int .i64 t.kind, .int .i64 p2, .int .i64 q2, .int .i64 t.n, .string ⟨t.s.toArray⟩] 59))
                      have HS1 := Lib.hid (hS1.alloc (.cells #[.int .i64 t.kind, .int .i64 p2, .int .i64 q2, .int .i64 t.n, .string ⟨t.s.toArray⟩] 59))
                      have HBX := Lib.hid (show (w1.alloc (.cells #[.int .i64 t.kind, .int .i64 p2, .int .i64 q2, .int .i64 t.n, .string ⟨t.s.toArray⟩] 59)).heap[w1.heap.size]? = some (.cells #[.int .i64 t.kind, .int .i64 p2, .int .i64 q2, .int .i64 t.n, .string ⟨t.s.toArray⟩] 59 (0, 0)) from heap_alloc_new _ _)
                      have hw1 : w.heap.size ≤ w1.heap.size := Nat.le_trans HFF.out.size hF1.size
                      clear hS1 hF1
                      unfold ctkV
                      go_wp2_with fail
                      refine (HC.out _ HS1.out).mono ?_
                      rintro e' w2 ⟨rfl, hS2, hF2⟩
                      clear e5 ef5
                      obtain ⟨e5, ef5⟩ := hS2.cell5
                      have HS2 := Lib.hid hS2
                      have HB2 := Lib.hid (hF2.tok HBX.out (by decide) (by decide))
                      have HF2 := Lib.hid (HF1.out.trans hF2)
                      have hl2 : w1.heap.size < w2.heap.size := by have := hF2.size; simp at this; omega
                      obtain ⟨g, hg⟩ : ∃ g, w1.heap.size = g := ⟨_, rfl⟩
                      rw [hg] at HB2 hl2 hw1
                      clear hS2 hF2 HBX HF1 HS1 HC
                      go_wp2_with fail
                      try rw [hg]
                      clear hg
                      refine (HN2.out _ HS2.out).mono ?_
                      rintro e' w3 ⟨rfl, hE3, hF3⟩
                      clear e5 ef5
                      obtain ⟨y0, y1, y2, y3, y4, yf⟩ := box_five HB2.out hF3
                      have HT3 : TokB w3 g := ⟨_, _, hF3.tok HB2.out (by decide) (by decide)⟩
                      have HE3 := Lib.hid (hE3.toks HT3 (.int .i64 t3.kind) (.int .i64 p3) (.int .i64 q3) (.int .i64 t3.n) (.string ⟨t3.s.toArray⟩))
                      have HB3 := Lib.hid (toks_box (hF3.tok HB2.out (by decide) (by decide)) (.int .i64 t3.kind) (.int .i64 p3) (.int .i64 q3) (.int .i64 t3.n) (.string ⟨t3.s.toArray⟩))
                      have HF3 := Lib.hid ((HF2.out.trans hF3).toks hw1 (.int .i64 t3.kind) (.int .i64 p3) (.int .i64 q3) (.int .i64 t3.n) (.string ⟨t3.s.toArray⟩))
                      have hl3 := hE3.lt
                      clear hE3 hF3 HT3
                      unfold ctkV
                      go_wp2_with fail
                      refine (HT.out _ HE3.out).mono ?_
                      rintro e' w4 ⟨rfl, hE4, hF4⟩
                      obtain ⟨e5, ef5⟩ := hE4.cell5
                      have HG := Lib.hid (hE4.fail (k := 3) (by decide))
                      have HH := Lib.hid (And.intro HG.out.1 ((HF3.out.trans hF4).trans HG.out.2))
                      clear hE4 hF4 y0 y1 y2 y3 y4 yf
                      go_wp2
                      go_roundg f
                      case measure => omega
                      case rel => exact ⟨Lib.hid HH.out.2, Lib.hid (.inr ⟨3, HH.out.1, HSE.out⟩)⟩
                  · have dl : decide (d < c) = false := decide_eq_false (by omega)
                    have HRW2 := Lib.hid (show rowC 2 t (s.data.toList.drop q2) σb = behind2 2 c d σ2 (s.data.toList.drop q3) by rw [HRW.out, hnx2]; dsimp only; rw [hxx]; dsimp only; rw [if_pos hle])
                    cases hnx3 : nextS (s.data.toList.drop q3) with
                    | bad k =>
                      have HN3 := Lib.hid (fun W hS => rnx_in B r s q3 σ2 m5 (by omega) W hS k hnx3)
                      have HSE := Lib.hid (show R = .bad k by rw [← hpc, partC_rbad hnx hend (by rw [HRW2.out]; unfold behind2; rw [if_neg (by decide), hnx3])])
                      clear hnx hnx2 hnx3 n1 n2 n3 n4 m1 m2 m3 m4 hSr HX hpc hend hcd HRW hxx HRW2
                      rcases htot with k6 | ⟨k6, s9⟩
                      all_goals
                        go_wp2_with fail
                        refine HNX.out.mono ?_
                        rintro e' w1 ⟨rfl, hS1, hF1⟩
                        clear e5 ef5
                        obtain ⟨e5, ef5⟩ := hS1.cell5
                        have hl1 := hS1.lt
                        have HF1 := Lib.hid ((HFF.out.trans hF1).alloc (.cells #[.int .i64 t.kind, .int .i64 p2, .int .i64 q2, .int .i64 t.n, .string ⟨t.s.toArray⟩] 59))
                        have HS1 := Lib.hid (hS1.alloc (.cells #[.int .i64 t.kind, .int .i64 p2, .int .i64 q2, .int .i64 t.n, .string ⟨t.s.toArray⟩] 59))
                        have HBX := Lib.hid (show (w1.alloc (.cells #[.int .i64 t.kind, .int .i64 p2, .int .i64 q2, .int .i64 t.n, .string ⟨t.s.toArray⟩] 59)).heap[w1.heap.size]? = some (.cells #[.int .i64 t.kind, .int .i64 p2, .int .i64 q2, .int .i64 t.n, .string ⟨t.s.toArray⟩] 59 (0, 0)) from heap_alloc_new _ _)
                        have hw1 : w.heap.size ≤ w1.heap.size := Nat.le_trans HFF.out.size hF1.size
                        clear hS1 hF1
                        unfold ctkV
                        go_wp2_with fail
                        refine (HC.out _ HS1.out).mono ?_
                        rintro e' w2 ⟨rfl, hS2, hF2⟩
                        clear e5 ef5
                        obtain ⟨e5, ef5⟩ := hS2.cell5
                        have HS2 := Lib.hid hS2
                        have HB2 := Lib.hid (hF2.tok HBX.out (by decide) (by decide))
                        have HF2 := Lib.hid (HF1.out.trans hF2)
                        have hl2 : w1.heap.size < w2.heap.size := by have := hF2.size; simp at this; omega
                        obtain ⟨g, hg⟩ : ∃ g, w1.heap.size = g := ⟨_, rfl⟩
                        rw [hg] at HB2 hl2 hw1
                        clear hS2 hF2 HBX HF1 HS1 HC
                        go_wp2_with fail
                        try rw [hg]
                        clear hg
                        refine (HN2.out _ HS2.out).mono ?_
                        rintro e' w3 ⟨rfl, hE3, hF3⟩
                        clear e5 ef5
                        obtain ⟨y0, y1, y2, y3, y4, yf⟩ := box_five HB2.out hF3
                        have HT3 : TokB w3 g := ⟨_, _, hF3.tok HB2.out (by decide) (by decide)⟩
                        have HE3 := Lib.hid (hE3.toks HT3 (.int .i64 t3.kind) (.int .i64 p3) (.int .i64 q3) (.int .i64 t3.n) (.string ⟨t3.s.toArray⟩))
                        have HB3 := Lib.hid (toks_box (hF3.tok HB2.out (by decide) (by decide)) (.int .i64 t3.kind) (.int .i64 p3) (.int .i64 q3) (.int .i64 t3.n) (.string ⟨t3.s.toArray⟩))
                        have HF3 := Lib.hid ((HF2.out.trans hF3).toks hw1 (.int .i64 t3.kind) (.int .i64 p3) (.int .i64 q3) (.int .i64 t3.n) (.string ⟨t3.s.toArray⟩))
                        have hl3 := hE3.lt
                        clear hE3 hF3 HT3
                        unfold ctkV
                        go_wp2_with fail
                        refine (HT.out _ HE3.out).mono ?_
                        rintro e' w4 ⟨rfl, hE4, hF4⟩
                        obtain ⟨e5, ef5⟩ := hE4.cell5
                        have HB4 := Lib.hid (hF4.tok HB3.out (by decide) (by decide))
                        have HF4 := Lib.hid (HF3.out.trans hF4)
                        have HE4 := Lib.hid hE4
                        have hl4 : g < w4.heap.size := by have := (Array.getElem?_eq_some_iff.1 HB4.out).1; omega
                        clear hE4 hF4 y0 y1 y2 y3 y4 yf hl3 HE3 HF3 HB3 HB2 HF2 HS2
                        go_wp2_with fail
                        refine (HN3.out _ HE4.out).mono ?_
                        rintro e' w5 ⟨k0, k1, k2, k3, s4, rfl, hE5, hF5⟩
                        clear e5 ef5
                        obtain ⟨y0, y1, y2, y3, y4, yf⟩ := box_five HB4.out hF5
                        have HT5 : TokB w5 g := ⟨_, _, hF5.tok HB4.out (by decide) (by decide)⟩
                        have HE5 := Lib.hid (hE5.toks HT5 (.int .i64 k0) (.int .i64 k1) (.int .i64 k2) (.int .i64 k3) (.string s4))
                        have HF5 := Lib.hid ((HF4.out.trans hF5).toks hw1 (.int .i64 k0) (.int .i64 k1) (.int .i64 k2) (.int .i64 k3) (.string s4))
                        have hl5 := hE5.lt
                        clear hE5 hF5 HT5
                        go_wp2_with fail
                        refine (rrow_err B r k c d k0 k1 k2 k3 s4 _ HE5.out).mono ?_
                        rintro e' w6 ⟨rfl, hE6, hF6⟩
                        have HH := Lib.hid (And.intro hE6 (HF5.out.trans hF6))
                        clear hE6 hF6 y0 y1 y2 y3 y4 yf
                        go_wp2
                        go_roundg f
                        case measure => omega
                        case rel => exact ⟨Lib.hid HH.out.2, Lib.hid (.inr ⟨k, HH.out.1, HSE.out⟩)⟩
                    | good tt4 =>
                      obtain ⟨t5, l5⟩ := tt4
                      obtain ⟨p5, q5, u1, u2, u3, u4, u5, rfl⟩ := nextS_pos hnx3 m5
                      have htl5 : t5.s.length ≤ 1000000 := Nat.le_trans (cnextT_short u1) (by decide)
                      have hq5 : q3 < q5 := by
                        have := (nextS_shorter hnx3).1
                        have h2 : s.data.toList.length = s.size := by simp
                        rw [List.length_drop, List.length_drop, h2] at this; omega
                      have HN3 := Lib.hid (fun W hS => rnx_good B r s q3 p5 σ2 true t5 m5 (by omega) W hS u1 u3 (fun _ => u2))
                      simp only [u4] at HN3
                      have HRW3 := Lib.hid (show rowC 2 t (s.data.toList.drop q2) σb = rowT c d σ2 t5 (s.data.toList.drop q5) by rw [HRW2.out]; unfold behind2; rw [if_neg (by decide), hnx3])
                      have HRR := Lib.hid (fun W hS => rrow_in B r s q5 p5 q5 σ2 t5 c d (by omega) hle hd1 htl5 u5 hs W hS)
                      cases hrt : rowT c d σ2 t5 (s.data.toList.drop q5) with
                      | bad k =>
                        rw [hrt] at HRR
                        have HSE := Lib.hid (show R = .bad k by rw [← hpc, partC_rbad hnx hend (by rw [HRW3.out, hrt])])
                        clear hnx hnx2 hnx3 n1 n2 n3 n4 m1 m2 m3 m4 hSr HX hpc hend hcd HRW hxx HRW2 u1 u2 u3 u4 hrt HRW3
                        rcases htot with k6 | ⟨k6, s9⟩
                        all_goals
                          go_wp2_with fail
                          refine HNX.out.mono ?_
                          rintro e' w1 ⟨rfl, hS1, hF1⟩
                          clear e5 ef5
                          obtain ⟨e5, ef5⟩ := hS1.cell5
                          have hl1 := hS1.lt
                          have HF1 := Lib.hid ((HFF.out.trans hF1).alloc (.cells #[.int .i64 t.kind, .int .i64 p2, .int .i64 q2, .int .i64 t.n, .string ⟨t.s.toArray⟩] 59))
                          have HS1 := Lib.hid (hS1.alloc (.cells #[.int .i64 t.kind, .int .i64 p2, .int .i64 q2, .int .i64 t.n, .string ⟨t.s.toArray⟩] 59))
                          have HBX := Lib.hid (show (w1.alloc (.cells #[.int .i64 t.kind, .int .i64 p2, .int .i64 q2, .int .i64 t.n, .string ⟨t.s.toArray⟩] 59)).heap[w1.heap.size]? = some (.cells #[.int .i64 t.kind, .int .i64 p2, .int .i64 q2, .int .i64 t.n, .string ⟨t.s.toArray⟩] 59 (0, 0)) from heap_alloc_new _ _)
                          have hw1 : w.heap.size ≤ w1.heap.size := Nat.le_trans HFF.out.size hF1.size
                          clear hS1 hF1
                          unfold ctkV
                          go_wp2_with fail
                          refine (HC.out _ HS1.out).mono ?_
                          rintro e' w2 ⟨rfl, hS2, hF2⟩
                          clear e5 ef5
                          obtain ⟨e5, ef5⟩ := hS2.cell5
                          have HS2 := Lib.hid hS2
                          have HB2 := Lib.hid (hF2.tok HBX.out (by decide) (by decide))
                          have HF2 := Lib.hid (HF1.out.trans hF2)
                          have hl2 : w1.heap.size < w2.heap.size := by have := hF2.size; simp at this; omega
                          obtain ⟨g, hg⟩ : ∃ g, w1.heap.size = g := ⟨_, rfl⟩
                          rw [hg] at HB2 hl2 hw1
                          clear hS2 hF2 HBX HF1 HS1 HC
                          go_wp2_with fail
                          try rw [hg]
                          clear hg
                          refine (HN2.out _ HS2.out).mono ?_
                          rintro e' w3 ⟨rfl, hE3, hF3⟩
                          clear e5 ef5
                          obtain ⟨y0, y1, y2, y3, y4, yf⟩ := box_five HB2.out hF3
                          have HT3 : TokB w3 g := ⟨_, _, hF3.tok HB2.out (by decide) (by decide)⟩
                          have HE3 := Lib.hid (hE3.toks HT3 (.int .i64 t3.kind) (.int .i64 p3) (.int .i64 q3) (.int .i64 t3.n) (.string ⟨t3.s.toArray⟩))
                          have HB3 := Lib.hid (toks_box (hF3.tok HB2.out (by decide) (by decide)) (.int .i64 t3.kind) (.int .i64 p3) (.int .i64 q3) (.int .i64 t3.n) (.string ⟨t3.s.toArray⟩))
                          have HF3 := Lib.hid ((HF2.out.trans hF3).toks hw1 (.int .i64 t3.kind) (.int .i64 p3) (.int .i64 q3) (.int .i64 t3.n) (.string ⟨t3.s.toArray⟩))
                          have hl3 := hE3.lt
                          clear hE3 hF3 HT3
                          unfold ctkV
                          go_wp2_with fail
                          refine (HT.out _ HE3.out).mono ?_
                          rintro e' w4 ⟨rfl, hE4, hF4⟩
                          obtain ⟨e5, ef5⟩ := hE4.cell5
                          have HB4 := Lib.hid (hF4.tok HB3.out (by decide) (by decide))
                          have HF4 := Lib.hid (HF3.out.trans hF4)
                          have HE4 := Lib.hid hE4
                          have hl4 : g < w4.heap.size := by have := (Array.getElem?_eq_some_iff.1 HB4.out).1; omega
                          clear hE4 hF4 y0 y1 y2 y3 y4 yf hl3 HE3 HF3 HB3 HB2 HF2 HS2
                          go_wp2_with fail
                          refine (HN3.out _ HE4.out).mono ?_
                          rintro e' w5 ⟨rfl, hE5, hF5⟩
                          clear e5 ef5
                          obtain ⟨y0, y1, y2, y3, y4, yf⟩ := box_five HB4.out hF5
                          have HT5 : TokB w5 g := ⟨_, _, hF5.tok HB4.out (by decide) (by decide)⟩
                          have HE5 := Lib.hid (hE5.toks HT5 (.int .i64 t5.kind) (.int .i64 p5) (.int .i64 q5) (.int .i64 t5.n) (.string ⟨t5.s.toArray⟩))
                          have HF5 := Lib.hid ((HF4.out.trans hF5).toks hw1 (.int .i64 t5.kind) (.int .i64 p5) (.int .i64 q5) (.int .i64 t5.n) (.string ⟨t5.s.toArray⟩))
                          have hl5 := hE5.lt
                          clear hE5 hF5 HT5
                          unfold ctkV
                          go_wp2_with fail
                          refine (HRR.out _ HE5.out).mono ?_
                          rintro e' w6 ⟨rfl, hE6, hF6⟩
                          have HH := Lib.hid (And.intro hE6 (HF5.out.trans hF6))
                          clear hE6 hF6 y0 y1 y2 y3 y4 yf
                          go_wp2
                          go_roundg f
                          case measure => omega
                          case rel => exact ⟨Lib.hid HH.out.2, Lib.hid (.inr ⟨k, HH.out.1, HSE.out⟩)⟩
                      | good z =>
                        obtain ⟨σ3, l3⟩ := z
                        have HLL := Lib.hid (rowT_len hrt)
                        rw [hrt] at HRR
                        have HSE := Lib.hid (show partC 2 f l3 σ3 = R by rw [← hpc, partC_more hnx hend (by rw [HRW3.out, hrt])])
                        clear hnx hnx2 hnx3 n1 n2 n3 n4 m1 m2 m3 m4 hSr HX hpc hend hcd HRW hxx HRW2 u1 u2 u3 u4 hrt HRW3
                        rcases htot with k6 | ⟨k6, s9⟩
                        all_goals
                          go_wp2_with fail
                          refine HNX.out.mono ?_
                          rintro e' w1 ⟨rfl, hS1, hF1⟩
                          clear e5 ef5
                          obtain ⟨e5, ef5⟩ := hS1.cell5
                          have hl1 := hS1.lt
                          have HF1 := Lib.hid ((HFF.out.trans hF1).alloc (.cells #[.int .i64 t.kind, .int .i64 p2, .int .i64 q2, .int .i64 t.n, .string ⟨t.s.toArray⟩] 59))
                          have HS1 := Lib.hid (hS1.alloc (.cells #[.int .i64 t.kind, .int .i64 p2, .int .i64 q2, .int .i64 t.n, .string ⟨t.s.toArray⟩] 59))
                          have HBX := Lib.hid (show (w1.alloc (.cells #[.int .i64 t.kind, .int .i64 p2, .int .i64 q2, .int .i64 t.n, .string ⟨t.s.toArray⟩] 59)).heap[w1.heap.size]? = some (.cells #[.int .i64 t.kind, .int .i64 p2, .int .i64 q2, .int .i64 t.n, .string ⟨t.s.toArray⟩] 59 (0, 0)) from heap_alloc_new _ _)
                          have hw1 : w.heap.size ≤ w1.heap.size := Nat.le_trans HFF.out.size hF1.size
                          clear hS1 hF1
                          unfold ctkV
                          go_wp2_with fail
                          refine (HC.out _ HS1.out).mono ?_
                          rintro e' w2 ⟨rfl, hS2, hF2⟩
                          clear e5 ef5
                          obtain ⟨e5, ef5⟩ := hS2.cell5
                          have HS2 := Lib.hid hS2
                          have HB2 := Lib.hid (hF2.tok HBX.out (by decide) (by decide))
                          have HF2 := Lib.hid (HF1.out.trans hF2)
                          have hl2 : w1.heap.size < w2.heap.size := by have := hF2.size; simp at this; omega
                          obtain ⟨g, hg⟩ : ∃ g, w1.heap.size = g := ⟨_, rfl⟩
                          rw [hg] at HB2 hl2 hw1
                          clear hS2 hF2 HBX HF1 HS1 HC
                          go_wp2_with fail
                          try rw [hg]
                          clear hg
                          refine (HN2.out _ HS2.out).mono ?_
                          rintro e' w3 ⟨rfl, hE3, hF3⟩
                          clear e5 ef5
                          obtain ⟨y0, y1, y2, y3, y4, yf⟩ := box_five HB2.out hF3
                          have HT3 : TokB w3 g := ⟨_, _, hF3.tok HB2.out (by decide) (by decide)⟩
                          have HE3 := Lib.hid (hE3.toks HT3 (.int .i64 t3.kind) (.int .i64 p3) (.int .i64 q3) (.int .i64 t3.n) (.string ⟨t3.s.toArray⟩))
                          have HB3 := Lib.hid (toks_box (hF3.tok HB2.out (by decide) (by decide)) (.int .i64 t3.kind) (.int .i64 p3) (.int .i64 q3) (.int .i64 t3.n) (.string ⟨t3.s.toArray⟩))
                          have HF3 := Lib.hid ((HF2.out.trans hF3).toks hw1 (.int .i64 t3.kind) (.int .i64 p3) (.int .i64 q3) (.int .i64 t3.n) (.string ⟨t3.s.toArray⟩))
                          have hl3 := hE3.lt
                          clear hE3 hF3 HT3
                          unfold ctkV
                          go_wp2_with fail
                          refine (HT.out _ HE3.out).mono ?_
                          rintro e' w4 ⟨rfl, hE4, hF4⟩
                          obtain ⟨e5, ef5⟩ := hE4.cell5
                          have HB4 := Lib.hid (hF4.tok HB3.out (by decide) (by decide))
                          have HF4 := Lib.hid (HF3.out.trans hF4)
                          have HE4 := Lib.hid hE4
                          have hl4 : g < w4.heap.size := by have := (Array.getElem?_eq_some_iff.1 HB4.out).1; omega
                          clear hE4 hF4 y0 y1 y2 y3 y4 yf hl3 HE3 HF3 HB3 HB2 HF2 HS2
                          go_wp2_with fail
                          refine (HN3.out _ HE4.out).mono ?_
                          rintro e' w5 ⟨rfl, hE5, hF5⟩
                          clear e5 ef5
                          obtain ⟨y0, y1, y2, y3, y4, yf⟩ := box_five HB4.out hF5
                          have HT5 : TokB w5 g := ⟨_, _, hF5.tok HB4.out (by decide) (by decide)⟩
                          have HE5 := Lib.hid (hE5.toks HT5 (.int .i64 t5.kind) (.int .i64 p5) (.int .i64 q5) (.int .i64 t5.n) (.string ⟨t5.s.toArray⟩))
                          have HF5 := Lib.hid ((HF4.out.trans hF5).toks hw1 (.int .i64 t5.kind) (.int .i64 p5) (.int .i64 q5) (.int .i64 t5.n) (.string ⟨t5.s.toArray⟩))
                          have hl5 := hE5.lt
                          clear hE5 hF5 HT5
                          unfold ctkV
                          go_wp2_with fail
                          refine (HRR.out _ HE5.out).mono ?_
                          rintro e' w6 ⟨rfl, ⟨a6, ha6, rfl, hE6⟩, hF6⟩
                          have HH := Lib.hid (And.intro hE6 (HF5.out.trans hF6))
                          have hq6 : s.size - a6 ≤ s.size - q5 := by
                            have := HLL.out
                            have h2 : s.data.toList.length = s.size := by simp
                            rw [List.length_drop, List.length_drop, h2] at this; exact this
                          clear hE6 hF6 y0 y1 y2 y3 y4 yf
                          go_wp2
                          go_roundg f
                          case measure => omega
                          case rel => exact ⟨Lib.hid HH.out.2, Lib.hid (.inl ⟨a6, σ3, ha6, by omega, HH.out.1, HSE.out⟩)⟩
    · obtain rfl : R = .bad e := hse
      obtain ⟨e5, ef5⟩ := hEr.cell5
      have ek : (e == 0) = false := by simpa using hEr.2.1
      have HE := Lib.hid hEr
      clear hEr HX
      go_wp2
      go_end0
      exact ⟨by first | rfl | trivial, HE.out, HFF.out⟩
end Go.Proofs.YtibffdaljmmdoaaGreatDoor
