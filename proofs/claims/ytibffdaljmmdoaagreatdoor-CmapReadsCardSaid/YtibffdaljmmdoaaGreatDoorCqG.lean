/- The reference's reader of a mapping: a row with a list of texts. -/
import Derived.Test.YtibffdaljmmdoaaGreatDoorCqF
set_option linter.all false
namespace Go.Proofs.YtibffdaljmmdoaaGreatDoor
open Go.RowKit Fo Go.Maps

/-- A text is appended; what else turns is the row's own block. -/
theorem cappendG {ops : Array Oper} {rest : List Oper} {o : Oper} {a : Act} {Q : Exit → Act → World → Prop} {w : World} (hgd : o.guard = none) (s x : Operand)
    (ho : o.op = .call { callee := .builtin .append, args := #[s, x], argTypes := #[65, 65] })
    (B : Nat) (v : Value) (ss : List L) (n : Nat) (hn : ss.length = n) (y : L) (hown : cownS w B v ss) (hs : a.eval s = v)
    (hx : a.eval x = .slice (some ⟨w.heap.size, 0, none⟩) 1 1) (hlen : n ≤ 1000000000) (hB : B ≤ w.heap.size)
    (h : ∀ p c w', cownS w' B (.slice p (n + 1) c) (ss ++ [y]) → (w.alloc (.cells #[.string ⟨y.toArray⟩] 9)).grownBy w' v.ownBlock → wpList Tryz.prog ops Q rest (a.put o.dst (.slice p (n + 1) c)) w') :
    wpList Tryz.prog ops Q (o :: rest) a (w.alloc (.cells #[.string ⟨y.toArray⟩] 9)) := by
  subst hn
  obtain ⟨i0, hi, hz0, hz1, hz2⟩ := info_parts Tryz.cinfoStr
  refine wpList_append_own _ hgd s x 65 ho B 9 i0 (.string ⟨#[]⟩) 1 16 Tryz.underlying65 hi hz0 hz1 hz2 rfl (by decide) v ss.length _ hs (hown.alloc _) ⟨w.heap.size, 0, none⟩ 1 1 [.string ⟨y.toArray⟩] hx rfl ?_ ?_ ?_ ?_ ?_ ?_
  · exact World.news_of_block (cs := #[.string ⟨y.toArray⟩]) (t := 9) (fr := (0, 0)) (heap_alloc_new w _)
  · intro u hu; simp at hu; subst hu; rfl
  · unfold maxLen; omega
  · omega
  · simp; omega
  · intro v' w' hown' hg _
    obtain ⟨p, c, rfl⟩ := cown_slice hown'
    refine h p c w' ?_ hg
    unfold cownS
    rw [List.map_append, List.length_append]
    exact hown'
theorem cown_block {w : World} {C : Nat} {v : Value} {ss : List L} (h : cownS w C v ss) : v.ownBlock = none ∨ ∃ g cs fr, v.ownBlock = some g ∧ C ≤ g ∧ w.heap[g]? = some (.cells cs 9 fr) := by
  rcases h.2 with ⟨rfl, _⟩ | ⟨g, cap, cur, rfl, hC, hg, _⟩
  · exact .inl rfl
  · exact .inr ⟨g, _, _, rfl, hC, hg⟩
theorem RS.grown {B C r a : Nat} {w w' : World} {s : ByteArray} {σ : CS} {v : Value} {ss : List L} (h : RS B w r s a σ) (ho : cownS w C v ss) (hg : w.grownBy w' v.ownBlock) : RS B w' r s a σ := by
  rcases cown_block ho with he | ⟨g, cs, fr, he, _, hb⟩
  · rw [he] at hg
    exact h.below ⟨hg.os, hg.tape, hg.output, hg.size, fun k hk => hg.block k hk (by simp)⟩
  · rw [he] at hg
    exact h.other hg hb (by decide) (by decide)
theorem RE.grown {B C r : Nat} {w w' : World} {k : Int} {v : Value} {ss : List L} (h : RE B w r k) (ho : cownS w C v ss) (hg : w.grownBy w' v.ownBlock) : RE B w' r k := by
  rcases cown_block ho with he | ⟨g, cs, fr, he, _, hb⟩
  · rw [he] at hg
    exact h.below ⟨hg.os, hg.tape, hg.output, hg.size, fun k hk => hg.block k hk (by simp)⟩
  · rw [he] at hg
    exact h.other hg hb (by decide)
theorem cown_fq {B C : Nat} {w w' : World} {v : Value} {ss : List L} (h : cownS w C v ss) (hf : Fq B w w') : cownS w' C v ss := by
  refine ⟨h.1, ?_⟩
  rcases h.2 with h1 | ⟨g, cap, cur, h1, h2, h3, h4⟩
  · exact .inl h1
  · exact .inr ⟨g, cap, cur, h1, h2, hf.tok h3 (by decide) (by decide), h4⟩
theorem Fq.grownS {B C : Nat} {a w w' : World} {v : Value} {ss : List L} (h : Fq B a w) (ho : cownS w C v ss) (hg : w.grownBy w' v.ownBlock) (hC : a.heap.size ≤ C) : Fq B a w' :=
  ⟨hg.os.trans h.os, hg.tape.trans h.tape, hg.output.trans h.output, Nat.le_trans h.size hg.size, fun k hk hp => (hg.block k (Nat.lt_of_lt_of_le hk h.size) (by
    intro he
    rcases cown_block ho with he' | ⟨g, cs, fr, he', hC', _⟩
    · rw [he'] at he; cases he
    · rw [he'] at he; cases he; omega)).trans (h.block k hk hp)⟩
/-- What a row turns. -/
def RowQ (B r : Nat) (s : ByteArray) (w : World) (R : Res (CS × L)) (e : Ending) (w' : World) : Prop :=
  match R with
  | .good (σ, l) => e = .returned (.tuple #[]) ∧ (∃ a, a ≤ s.size ∧ l = s.data.toList.drop a ∧ RS B w' r s a σ) ∧ Fq B w w'
  | .bad k => e = .returned (.tuple #[]) ∧ RE B w' r k ∧ Fq B w w'
def behindC (l : L) : Res CS → Res (CS × L)
  | .bad k => .bad k
  | .good σ2 => .good (σ2, l)
/-- A row's list, in the plain. -/
def listC (x y : Int) (σ : CS) (R : Res (List L × L)) : Res (CS × L) :=
  match R with
  | .bad k => .bad k
  | .good (xs, r3) =>
    if (xs.length : Int) = y - x + 1 then behindC r3 (tellAllC x xs σ) else .bad 3
set_option maxRecDepth 100000 in
set_option maxHeartbeats 2000000 in
theorem rrow_list (B r : Nat) (s : ByteArray) (a : Nat) (p0 q0 n0 : Int) (σ : CS) (x y : Int) (N : Nat) (hx : 0 ≤ x) (hy : y ≤ 65535) (hN : y - x = (N : Int)) (ha : a ≤ s.size) (hs : s.size ≤ 1000000) (fuel : Nat) (hfu : s.size - a < fuel)
    (w : World) (hS : RS B w r s a σ) (hB : B ≤ w.heap.size) :
    Calls Tryz.prog 54 #[.pointer (some ⟨r, 0, none⟩), .int .i64 x, .int .i64 y, .agg #[.int .i64 6, .int .i64 p0, .int .i64 q0, .int .i64 n0, .string ⟨#[91]⟩]] w (RowQ B r s w (listC x y σ (sevC fuel (s.data.toList.drop a) []))) := by
  obtain ⟨SV, hSV⟩ : ∃ SV, sevC fuel (s.data.toList.drop a) [] = SV := ⟨_, rfl⟩
  rw [hSV]
  have HSV := Lib.hid hSV
  obtain ⟨LR, hLR⟩ : ∃ LR, listC x y σ SV = LR := ⟨_, rfl⟩
  rw [hLR]
  have HLR := Lib.hid hLR
  clear hSV hLR
  obtain ⟨c5, f5⟩ := hS.cell5
  have hlt := hS.lt
  have hS0 := Lib.hid (hS.alloc (.cells #[.int .i64 6, .int .i64 p0, .int .i64 q0, .int .i64 n0, .string ⟨#[91]⟩] 59))
  have HF0 := Lib.hid (show Fq B w (w.alloc (.cells #[.int .i64 6, .int .i64 p0, .int .i64 q0, .int .i64 n0, .string ⟨#[91]⟩] 59)) from (Fq.refl _ _).alloc _)
  have d0 : decide (y < x) = false := decide_eq_false (by omega)
  go_enter Tryz.func54, Tryz.ntmps54
  go_wp2
  go_loopg [10] fuel (fun f v wr => ∃ (n : Nat) (p : Option Addr) (c : Nat), v = .slice p n c ∧ n ≤ s.size + 1 ∧ Hid (Fq B w wr) ∧ Hid ((∃ (b : Nat) (acc : List L), acc.length = n ∧ n ≤ b ∧ b ≤ s.size ∧ s.size - b < f ∧ RS B wr r s b σ ∧ cownS wr w.heap.size v acc ∧ sevC f (s.data.toList.drop b) acc = SV) ∨ (∃ e, RE B wr r e ∧ SV = .bad e)))
  case atStart => exact ⟨0, none, 0, rfl, by omega, HF0, Lib.hid (.inl ⟨a, [], rfl, by omega, ha, hfu, hS0.out, cownS_nil _ _, HSV.out⟩)⟩
  case round =>
    obtain ⟨n, pv, cv, rfl, hn, HFF, HX⟩ := hrel
    clear HSV HF0 hS0 c5 f5
    rcases HX.out with ⟨b, acc, hacc, hnb, hb, hbf, hSr, hown, hsv⟩ | ⟨e, hEr, hse⟩
    · obtain ⟨e5, ef5⟩ := hSr.cell5
      obtain ⟨f, rfl⟩ : ∃ f, gk = f + 1 := ⟨gk - 1, by omega⟩
      have hwl : w.heap.size ≤ wr.heap.size := HFF.out.size
      cases hnx : nextS (s.data.toList.drop b) with
      | bad k =>
        have hSVk : SV = .bad k := by rw [← hsv, sevC_bad hnx]
        have HNX := Lib.hid (rnx_in B r s b σ hb (by omega) wr hSr k hnx)
        have HO := Lib.hid hown
        have HAC := Lib.hid hacc
        have HSB := Lib.hid hSVk
        clear hnx hown hSr HX hsv hacc hSVk
        go_wp2_with fail
        refine HNX.out.mono ?_
        rintro e' w1 ⟨k0, k1, k2, k3, s4, rfl, hE1, hF1⟩
        clear e5 ef5
        obtain ⟨e5, ef5⟩ := hE1.cell5
        have ek : (k == 0) = false := by simpa using hE1.2.1
        have hl1 := hE1.lt
        have HO1 := Lib.hid (cown_fq HO.out hF1)
        have HF1 := Lib.hid (HFF.out.trans hF1)
        have HE1 := Lib.hid hE1
        have hz1 := hF1.size
        clear hE1 hF1
        go_wp2_with fail
        refine (rtext_err B r k k0 k1 k2 k3 s4 _ (HE1.out.alloc _)).mono ?_
        rintro e' w2 ⟨rfl, hE2, hF2⟩
        clear e5 ef5
        have HO2 := Lib.hid (cown_fq (cown_fq HO1.out ((Fq.refl B w1).alloc (.cells #[.int .i64 k0, .int .i64 k1, .int .i64 k2, .int .i64 k3, .string s4] 59))) hF2)
        have HF2 := Lib.hid ((HF1.out.alloc _).trans hF2)
        have HE2 := Lib.hid hE2
        have hB2 : w.heap.size ≤ w2.heap.size := HF2.out.size
        clear hE2 hF2
        go_wp2_with (at_builtin; refine cappendG rfl _ _ rfl w.heap.size _ acc n HAC.out [] HO2.out rfl rfl (by omega) hB2 ?_; intro p6 c6 w6 own6 hg6)
        have HO3 := Lib.hid (cown_fq HO2.out ((Fq.refl B w2).alloc (.cells #[.string ⟨List.toArray []⟩] 9)))
        have HE6 := Lib.hid ((HE2.out.alloc _).grown HO3.out hg6)
        have HF6 := Lib.hid ((HF2.out.alloc _).grownS HO3.out hg6 (Nat.le_refl _))
        have HO6 := Lib.hid own6
        clear own6 hg6
        go_roundg f
        case measure => omega
        case rel => exact ⟨n + 1, p6, c6, rfl, by omega, HF6, Lib.hid (.inr ⟨k, HE6.out, HSB.out⟩)⟩
      | good tt =>
        obtain ⟨t, l2⟩ := tt
        obtain ⟨p2, q2, n1, n2, n3, n4, n5, rfl⟩ := nextS_pos hnx hb
        have htl : t.s.length ≤ 1000000 := Nat.le_trans (cnextT_short n1) (by decide)
        have hq : b < q2 := by
          have := (nextS_shorter hnx).1
          have h2 : s.data.toList.length = s.size := by simp
          rw [List.length_drop, List.length_drop, h2] at this; omega
        have HNX := Lib.hid (rnx_good B r s b p2 σ true t hb (by omega) wr hSr n1 n3 (fun _ => n2))
        rw [n4] at HNX
        have HO := Lib.hid hown
        have HAC := Lib.hid hacc
        have HT := Lib.hid (fun W hS => rtext_in B r s q2 p2 q2 σ t W hS htl)
        by_cases hend : t.kind = 6 ∧ t.s = [93]
        · obtain ⟨h1, h2⟩ := hend
          have HSB := Lib.hid (show SV = .good (acc, s.data.toList.drop q2) by rw [← hsv, sevC_end hnx h1 h2])
          have k6 : (t.kind == 6) = true := by simpa using h1
          have s9 : (t.s == [93]) = true := by simpa using h2
          clear hnx n1 n2 n3 n4 h1 h2 hown hSr HX hsv hacc
          go_wp2_with fail
          refine HNX.out.mono ?_
          rintro e' w1 ⟨rfl, hS1, hF1⟩
          clear e5 ef5
          obtain ⟨e5, ef5⟩ := hS1.cell5
          have hl1 := hS1.lt
          have HO1 := Lib.hid (cown_fq HO.out hF1)
          have HF1 := Lib.hid (HFF.out.trans hF1)
          have HS1 := Lib.hid hS1
          have hz1 := hF1.size
          clear hS1 hF1
          unfold ctkV
          have wN := IntWalk.i64_in (N : Int) ⟨by omega, by omega⟩
          have wN1 := IntWalk.i64_in ((N : Int) + 1) ⟨by omega, by omega⟩
          by_cases hnN : n = N + 1
          rotate_left
          · have dN : ((n : Int) != (N : Int) + 1) = true := by simp; omega
            obtain rfl : LR = .bad 3 := by rw [← HLR.out, HSB.out]; unfold listC; dsimp only; rw [if_neg (by have := HAC.out; omega)]
            have HE := Lib.hid (show RE B ((w1.setCell ⟨r, 5, none⟩ (.int .i64 3)).alloc (.cells #[.int .i64 t.kind, .int .i64 p2, .int .i64 q2, .int .i64 t.n, .string ⟨t.s.toArray⟩] 59)) r 3 ∧ Fq B w ((w1.setCell ⟨r, 5, none⟩ (.int .i64 3)).alloc (.cells #[.int .i64 t.kind, .int .i64 p2, .int .i64 q2, .int .i64 t.n, .string ⟨t.s.toArray⟩] 59)) from ⟨(HS1.out.fail (k := 3) (by decide)).1.alloc _, (HF1.out.trans (HS1.out.fail (k := 3) (by decide)).2).alloc _⟩)
            go_upto_region 21 with fail
            clear e5 ef5
            obtain ⟨e5, ef5⟩ := HE.out.1.cell5
            go_wp2
            go_loopw [12] (fun i wr => i = .int .i64 0 ∧ Hid (RE B wr r 3 ∧ Fq B w wr)) (fun _ _ => 0)
            case atStart => exact ⟨rfl, HE⟩
            case round =>
              clear e5 ef5 HE
              obtain ⟨rfl, HE⟩ := hrel
              obtain ⟨e5, ef5⟩ := HE.out.1.cell5
              by_cases hn0 : 0 < n
              · have z1 : decide ((0 : Int) < (n : Int)) = true := decide_eq_true (by omega)
                have z2 : decide (0 < n) = true := decide_eq_true hn0
                go_wp2
                go_end0
                exact ⟨by first | rfl | trivial, HE.out.1, HE.out.2⟩
              · have z1 : decide ((0 : Int) < (n : Int)) = false := decide_eq_false (by omega)
                have z2 : decide (0 < n) = false := decide_eq_false hn0
                go_wp2
                go_end0
                exact ⟨by first | rfl | trivial, HE.out.1, HE.out.2⟩
          · have dN : ((n : Int) != (N : Int) + 1) = false := by simp; omega
            obtain ⟨TT, hTT⟩ : ∃ TT, tellAllC x acc σ = TT := ⟨_, rfl⟩
            have HLR2 := Lib.hid (show LR = behindC (s.data.toList.drop q2) TT by rw [← HLR.out, HSB.out]; unfold listC; dsimp only; rw [if_pos (by have := HAC.out; omega), hTT])
            have HTT := Lib.hid hTT
            clear hTT
            have HOA := Lib.hid (cown_fq HO1.out ((Fq.refl B w1).alloc (.cells #[.int .i64 t.kind, .int .i64 p2, .int .i64 q2, .int .i64 t.n, .string ⟨t.s.toArray⟩] 59)))
            have HFA := Lib.hid (HF1.out.alloc (.cells #[.int .i64 t.kind, .int .i64 p2, .int .i64 q2, .int .i64 t.n, .string ⟨t.s.toArray⟩] 59))
            have HSA := Lib.hid (HS1.out.alloc (.cells #[.int .i64 t.kind, .int .i64 p2, .int .i64 q2, .int .i64 t.n, .string ⟨t.s.toArray⟩] 59))
            have hn66 : n ≤ 65536 := by omega
            clear hnN
            go_wp2
            go_loopw [12] (fun i wr => ∃ k : Nat, k ≤ n ∧ i = .int .i64 k ∧ Hid (Fq B w wr) ∧ Hid (cownS wr w.heap.size (.slice pv n cv) acc) ∧ Hid ((∃ σk, RS B wr r s q2 σk ∧ tellAllC (x + (k : Int)) (acc.drop k) σk = TT) ∨ (∃ e, RE B wr r e ∧ TT = .bad e))) (fun i _ => n - (intOf i).toNat)
            case atStart => exact ⟨0, Nat.zero_le _, by go_num, HFA, HOA, Lib.hid (.inl ⟨σ, HSA.out, by simpa using HTT.out⟩)⟩
            case round =>
              clear HFA HOA HSA HTT e5 ef5
              obtain ⟨k, hk, rfl, HFK, HOK, HX2⟩ := hrel
              rcases HX2.out with ⟨σk, hSk, hTk⟩ | ⟨e, hEk, hTe⟩
              · obtain ⟨e5, ef5⟩ := hSk.cell5
                by_cases hkn : k < n
                · have hka : k < acc.length := by rw [HAC.out]; exact hkn
                  have hOc : cownS wr w.heap.size (.slice pv n cv) acc := HOK.out
                  obtain ⟨g, rfl, hg1, hg2, c0⟩ := cownS_cell hOc k hka
                  rw [tellAll_cons hka] at hTk
                  obtain ⟨xv, hxv⟩ : ∃ v, acc[k] = v := ⟨_, rfl⟩
                  rw [hxv] at c0 hTk
                  have g0 : 0 ≤ x + (k : Int) := by omega
                  have g1 : x + (k : Int) ≤ 1000000 := by omega
                  have wk := IntWalk.i64_in (x + (k : Int)) ⟨by omega, by omega⟩
                  have HTE := Lib.hid (rtell_in B r s q2 σk (x + (k : Int)) xv g0 g1 wr hSk (Nat.le_trans hSk.base (Nat.le_of_lt hSk.lt)))
                  obtain ⟨R2, hR2⟩ : ∃ R2, tellC σk (x + (k : Int)) xv = R2 := ⟨_, rfl⟩
                  rw [hR2] at hTk HTE
                  have HTK := Lib.hid hTk
                  clear hR2 hTk hxv hSk HX2 hOc
                  cases R2 with
                  | bad e2 =>
                    have hTT2 := Lib.hid (show TT = .bad e2 from HTK.out.symm)
                    go_wp2_with fail
                    refine HTE.out.mono ?_
                    rintro e' w5 ⟨rfl, hE5, hF5⟩
                    clear e5 ef5 c0
                    have HH := Lib.hid (And.intro hE5 (And.intro (Lib.hid (HFK.out.trans hF5)) (Lib.hid (cown_fq HOK.out hF5))))
                    clear hE5 hF5
                    go_wp2
                    go_roundw
                    case rel => exact ⟨k + 1, by omega, by go_num, HH.out.2.1, HH.out.2.2, Lib.hid (.inr ⟨e2, HH.out.1, hTT2.out⟩)⟩
                    case measure => simp [intOf]; omega
                  | good σ' =>
                    go_wp2_with fail
                    refine HTE.out.mono ?_
                    rintro e' w5 ⟨rfl, hE5, hF5⟩
                    clear e5 ef5 c0
                    have HH := Lib.hid (And.intro hE5 (And.intro (Lib.hid (HFK.out.trans hF5)) (Lib.hid (cown_fq HOK.out hF5))))
                    clear hE5 hF5
                    go_wp2
                    go_roundw
                    case rel => exact ⟨k + 1, by omega, by go_num, HH.out.2.1, HH.out.2.2, Lib.hid (.inl ⟨σ', HH.out.1, HTK.out⟩)⟩
                    case measure => simp [intOf]; omega
                · obtain rfl : LR = .good (σk, s.data.toList.drop q2) := by
                    rw [List.drop_eq_nil_of_le (by rw [HAC.out]; omega), tellAllC] at hTk
                    rw [HLR2.out, ← hTk]; rfl
                  have HSK := Lib.hid hSk
                  clear hSk HX2 hTk
                  go_wp2
                  go_end0
                  exact ⟨by first | rfl | trivial, ⟨q2, n5, rfl, HSK.out⟩, HFK.out⟩
              · obtain rfl : LR = .bad e := by rw [HLR2.out, hTe]; rfl
                obtain ⟨e5, ef5⟩ := hEk.cell5
                have ek : (e == 0) = false := by simpa using hEk.2.1
                have HE := Lib.hid hEk
                clear hEk HX2 hTe
                by_cases hkn : k < n
                · have z2 : decide (k < n) = true := decide_eq_true hkn
                  go_wp2
                  go_end0
                  exact ⟨by first | rfl | trivial, HE.out, HFK.out⟩
                · have z2 : decide (k < n) = false := decide_eq_false hkn
                  go_wp2
                  go_end0
                  exact ⟨by first | rfl | trivial, HE.out, HFK.out⟩
        · have htot : (t.kind == 6) = false ∨ (t.kind == 6) = true ∧ (t.s == [93]) = false := by
            cases k6 : (t.kind == 6)
            · exact .inl rfl
            · refine .inr ⟨rfl, ?_⟩
              cases h : (t.s == [93])
              · rfl
              · exact absurd ⟨by simpa using k6, by simpa using h⟩ hend
          cases hxx : textC t with
          | bad k =>
            rw [hxx] at HT
            have HSB := Lib.hid (show SV = .bad k by rw [← hsv, sevC_tbad hnx hend hxx])
            clear hnx n1 n2 n3 n4 hown hSr HX hsv hacc hend hxx
            rcases htot with k6 | ⟨k6, s9⟩
            all_goals
              go_wp2_with fail
              refine HNX.out.mono ?_
              rintro e' w1 ⟨rfl, hS1, hF1⟩
              clear e5 ef5
              obtain ⟨e5, ef5⟩ := hS1.cell5
              have hl1 := hS1.lt
              have HO1 := Lib.hid (cown_fq HO.out hF1)
              have HF1 := Lib.hid (HFF.out.trans hF1)
              have HS1 := Lib.hid hS1
              have hz1 := hF1.size
              clear hS1 hF1
              unfold ctkV
              go_wp2_with fail
              refine (HT.out _ (HS1.out.alloc _)).mono ?_
              rintro e' w2 ⟨rfl, hE2, hF2⟩
              clear e5 ef5
              have HO2 := Lib.hid (cown_fq (cown_fq HO1.out ((Fq.refl B w1).alloc (.cells #[.int .i64 t.kind, .int .i64 p2, .int .i64 q2, .int .i64 t.n, .string ⟨t.s.toArray⟩] 59))) hF2)
              have HF2 := Lib.hid ((HF1.out.alloc _).trans hF2)
              have HE2 := Lib.hid hE2
              have hB2 : w.heap.size ≤ w2.heap.size := HF2.out.size
              clear hE2 hF2
              go_wp2_with (at_builtin; refine cappendG rfl _ _ rfl w.heap.size _ acc n HAC.out [] HO2.out rfl rfl (by omega) hB2 ?_; intro p6 c6 w6 own6 hg6)
              have HO3 := Lib.hid (cown_fq HO2.out ((Fq.refl B w2).alloc (.cells #[.string ⟨List.toArray []⟩] 9)))
              have HE6 := Lib.hid ((HE2.out.alloc _).grown HO3.out hg6)
              have HF6 := Lib.hid ((HF2.out.alloc _).grownS HO3.out hg6 (Nat.le_refl _))
              have HO6 := Lib.hid own6
              clear own6 hg6
              go_roundg f
              case measure => omega
              case rel => exact ⟨n + 1, p6, c6, rfl, by omega, HF6, Lib.hid (.inr ⟨k, HE6.out, HSB.out⟩)⟩
          | good xv =>
            rw [hxx] at HT
            have HSB := Lib.hid (show sevC f (s.data.toList.drop q2) (acc ++ [xv]) = SV by rw [← hsv, sevC_more hnx hend hxx])
            clear hnx n1 n2 n3 n4 hown hSr HX hsv hacc hend hxx
            rcases htot with k6 | ⟨k6, s9⟩
            all_goals
              go_wp2_with fail
              refine HNX.out.mono ?_
              rintro e' w1 ⟨rfl, hS1, hF1⟩
              clear e5 ef5
              obtain ⟨e5, ef5⟩ := hS1.cell5
              have hl1 := hS1.lt
              have HO1 := Lib.hid (cown_fq HO.out hF1)
              have HF1 := Lib.hid (HFF.out.trans hF1)
              have HS1 := Lib.hid hS1
              have hz1 := hF1.size
              clear hS1 hF1
              unfold ctkV
              go_wp2_with fail
              refine (HT.out _ (HS1.out.alloc _)).mono ?_
              rintro e' w2 ⟨rfl, hE2, hF2⟩
              clear e5 ef5
              have HO2 := Lib.hid (cown_fq (cown_fq HO1.out ((Fq.refl B w1).alloc (.cells #[.int .i64 t.kind, .int .i64 p2, .int .i64 q2, .int .i64 t.n, .string ⟨t.s.toArray⟩] 59))) hF2)
              have HF2 := Lib.hid ((HF1.out.alloc _).trans hF2)
              have HE2 := Lib.hid hE2
              have hB2 : w.heap.size ≤ w2.heap.size := HF2.out.size
              clear hE2 hF2
              go_wp2_with (at_builtin; refine cappendG rfl _ _ rfl w.heap.size _ acc n HAC.out xv HO2.out rfl rfl (by omega) hB2 ?_; intro p6 c6 w6 own6 hg6)
              have HO3 := Lib.hid (cown_fq HO2.out ((Fq.refl B w2).alloc (.cells #[.string ⟨List.toArray xv⟩] 9)))
              have HE6 := Lib.hid ((HE2.out.alloc _).grown HO3.out hg6)
              have HF6 := Lib.hid ((HF2.out.alloc _).grownS HO3.out hg6 (Nat.le_refl _))
              have HO6 := Lib.hid own6
              clear own6 hg6
              go_roundg f
              case measure => omega
              case rel => exact ⟨n + 1, p6, c6, rfl, by omega, HF6, Lib.hid (.inl ⟨q2, acc ++ [xv], by rw [List.length_append, HAC.out]; rfl, by omega, n5, by omega, HE6.out, HO6.out, HSB.out⟩)⟩
    · obtain rfl : LR = .bad e := by rw [← HLR.out, hse]; rfl
      obtain ⟨e5, ef5⟩ := hEr.cell5
      have ek : (e == 0) = false := by simpa using hEr.2.1
      have HE := Lib.hid (And.intro hEr HFF.out)
      clear hEr HX hse HLR
      go_wp2
      go_loopw [12] (fun i wr => i = .int .i64 0 ∧ Hid (RE B wr r e ∧ Fq B w wr)) (fun _ _ => 0)
      case atStart => exact ⟨rfl, HE⟩
      case round =>
        clear e5 ef5 HE
        obtain ⟨rfl, HE⟩ := hrel
        obtain ⟨e5, ef5⟩ := HE.out.1.cell5
        by_cases hn0 : 0 < n
        · have z1 : decide ((0 : Int) < (n : Int)) = true := decide_eq_true (by omega)
          have z2 : decide (0 < n) = true := decide_eq_true hn0
          go_wp2
          go_end0
          exact ⟨by first | rfl | trivial, HE.out.1, HE.out.2⟩
        · have z1 : decide ((0 : Int) < (n : Int)) = false := decide_eq_false (by omega)
          have z2 : decide (0 < n) = false := decide_eq_false hn0
          go_wp2
          go_end0
          exact ⟨by first | rfl | trivial, HE.out.1, HE.out.2⟩
end Go.Proofs.YtibffdaljmmdoaaGreatDoor
