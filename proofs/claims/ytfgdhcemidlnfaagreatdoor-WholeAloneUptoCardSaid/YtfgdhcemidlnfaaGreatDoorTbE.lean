/- The walk of table.Text at a table that is well made. -/
import Derived.Test.YtfgdhcemidlnfaaGreatDoorTbD
import Derived.Test.YtfgdhcemidlnfaaGreatDoorGWr
import Derived.Test.YtfgdhcemidlnfaaGreatDoorGTb
import Derived.Deep.CutRange
set_option linter.all false
namespace Go.Proofs.YtfgdhcemidlnfaaGreatDoor
open Go.RowKit Fo

theorem write_good {o : Ob} (hc : checkB 24 o = 0) (h9 : o.kind ≠ 9) : writeW o = .good (textW o) := by
  unfold writeW; rw [hc]; rw [if_neg (by decide), if_neg h9]
theorem digI_nat (n : Nat) : digI (n : Int) = digU n := by unfold digI; rw [if_neg (by omega)]; rfl
theorem intV_nat (n : Nat) (h : n ≤ 2147483647) : intV (n : Int) = .tuple #[.string ⟨(digU n).toArray⟩, .int .i64 0] := by unfold intV; rw [if_neg (by omega), digI_nat]
theorem padW_len (k n : Nat) (h : (digU n).length ≤ k) : (padW k n).length = k := by unfold padW; simp; omega
set_option maxRecDepth 100000 in
set_option maxHeartbeats 2000000 in
theorem ttext_in (S : Nat → Prop) (d : Nat) (z k n g x1 x2 x3 : Int) (s : L) (p1 p2 p : Option Addr) (m1 c1 m2 c2 cp : Nat) (l : List Sl) (o : Ob) (w : World)
    (hv : RArg slE w (.slice p l.length cp) l) (hl : SlotsOk l) (hl1 : 0 < l.length) (hcp : l.length ≤ cp) (ho : ObjAt S d w [.int .i64 k, .int .i64 n, .int .i64 g, .string ⟨s.toArray⟩, .slice p1 m1 c1, .slice p2 m2 c2] o) (hsm : smallO d o) (hS : ∀ b, S b → b < w.heap.size)
    (hc : checkB 24 o = 0) (hk : k = 7) (hok : o.kind = 7) (hT : TabP w) (hbk : bulkO 24 o ≤ 2000000) :
    Calls Tryz.prog 51 #[.agg #[.int .i64 z, .slice p l.length cp, .int .i64 k, .int .i64 n, .int .i64 g, .string ⟨s.toArray⟩, .slice p1 m1 c1, .slice p2 m2 c2, .int .i64 x1, .int .i64 x2, .int .i64 x3]] w fun e w' =>
      e = .returned (.tuple #[.string ⟨(tableW l o).toArray⟩, .int .i64 0]) ∧ Below w.heap.size w w' := by
  have kept := fun (W : World) (hW : Below w.heap.size w W) => ho.kept (fun b h => hW.block b (hS b h)) d
  have HRF := Lib.hid (fun (W : World) (hW : Below w.heap.size w W) => trefuse_in S d z k n g x1 x2 x3 s p1 p2 p m1 c1 m2 c2 cp l o W (hv.below hW) hl (kept W hW) hsm (fun b h => Nat.lt_of_lt_of_le (hS b h) hW.size) hc hk)
  have hwg := write_good hc (by rw [hok]; decide)
  have HWT := Lib.hid (fun (W : World) (hW : Below w.heap.size w W) => by
    have := wText_in S d W _ o (kept W hW) hsm (fun b h => Nat.lt_of_lt_of_le (hS b h) hW.size) (hT.below hW) (fun _ => hbk)
    rw [hwg] at this
    exact this)
  have HRN := Lib.hid (fun (W : World) (hW : Below w.heap.size w W) => truns_in (.slice p l.length cp) l W (hv.below hW) hl)
  have HTL : Hid ((textW o).length ≤ 100000000) := Lib.hid (by
    have := textW_le (okO_of_check hc (by rw [hok]; decide))
    omega)
  subst hk
  obtain ⟨T, hTx⟩ : ∃ T, textW o = T := ⟨_, rfl⟩
  have HR := Lib.hid (show tableW l o = wXref ++ (48 :: 32 :: (digU l.length ++ 10 :: (l.flatMap rowW ++ (wTrailer ++ (T ++ [10]))))) by rw [← hTx]; rfl)
  rw [hTx] at HWT HTL
  obtain ⟨R, hRx⟩ : ∃ R, tableW l o = R := ⟨_, rfl⟩
  rw [hRx] at HR ⊢
  obtain ⟨N, hN⟩ : ∃ N, l.length = N := ⟨_, rfl⟩
  have HV := Lib.hid hv
  have HN := Lib.hid hN
  have HL := Lib.hid hl.2
  have hn1 : N ≤ 8192 := by have := hl.1; omega
  have hn0 : 0 < N := by omega
  rw [hN] at HV HRF HRN HR hcp
  rw [hN]
  clear hv hN hl ho hsm hS hc kept hwg hTx hRx hbk hok hl1
  go_enter Tryz.func51, Tryz.ntmps51
  go_wp2_with fail
  refine (HRF.out _ ((Below.refl _ w).alloc (Nat.le_refl _) _)).mono ?_
  rintro e w1 ⟨rfl, hb1⟩
  obtain ⟨w0, hw0⟩ : ∃ w0, w.alloc (.cells #[.int .i64 z, .slice p N cp, .int .i64 7, .int .i64 n, .int .i64 g, .string ⟨s.toArray⟩, .slice p1 m1 c1, .slice p2 m2 c2, .int .i64 x1, .int .i64 x2, .int .i64 x3] 42) = w0 := ⟨_, rfl⟩
  have HX := Lib.hid (show w0.heap[w.heap.size]? = some (.cells #[.int .i64 z, .slice p N cp, .int .i64 7, .int .i64 n, .int .i64 g, .string ⟨s.toArray⟩, .slice p1 m1 c1, .slice p2 m2 c2, .int .i64 x1, .int .i64 x2, .int .i64 x3] 42) by rw [← hw0]; exact heap_new_at w (.cells #[.int .i64 z, .slice p N cp, .int .i64 7, .int .i64 n, .int .i64 g, .string ⟨s.toArray⟩, .slice p1 m1 c1, .slice p2 m2 c2, .int .i64 x1, .int .i64 x2, .int .i64 x3] 42) _ rfl)
  have hlt0 : w.heap.size < w0.heap.size := by rw [← hw0]; simp
  have hbw0 : Below w.heap.size w w0 := by rw [← hw0]; exact (Below.refl _ w).alloc (Nat.le_refl _) _
  rw [hw0] at hb1
  clear hw0
  obtain ⟨z0, z1, z2, z3, z4, z5, z6, z7⟩ := eight_at ((hb1.block _ hlt0).trans HX.out)
  go_wp2_with fail
  refine (HWT.out _ (hbw0.trans (hb1.mono hbw0.size))).mono ?_
  rintro e w2 ⟨he, hb2⟩
  obtain rfl := he
  have hb02 := hb1.trans (hb2.mono hb1.size)
  clear z0 z1 z2 z3 z4 z5 z6 z7 hb1 hb2 HWT HRF w1
  obtain ⟨z0, z1, z2, z3, z4, z5, z6, z7⟩ := eight_at ((hb02.block _ hlt0).trans HX.out)
  go_wp2_with fail
  refine (blf_str w2.heap.size [] _ _ (bldF_fresh w2) (by decide) (by simp)).mono ?_
  rintro e w3 ⟨rfl, h3, hb3, _⟩
  obtain ⟨B, hB⟩ : ∃ B, w2.heap.size = B := ⟨_, rfl⟩
  have hb03 : Below w0.heap.size w0 w3 := hb02.trans ((((Below.refl _ w2).alloc (Nat.le_refl _) _).trans hb3).mono hb02.size)
  have hB0 : w0.heap.size ≤ B := by rw [← hB]; exact hb02.size
  have hB3 : B < w3.heap.size := by have := hb3.size; simp at this; omega
  rw [hB] at h3 ⊢
  clear hb3 hB z0 z1 z2 z3 z4 z5 z6 z7 hb02
  obtain ⟨z0, z1, z2, z3, z4, z5, z6, z7⟩ := eight_at ((hb03.block _ hlt0).trans HX.out)
  go_wp2_with fail
  refine (HRN.out _ (hbw0.trans (hb03.mono hbw0.size))).mono ?_
  rintro e w4 ⟨r, rfl, hr, hb4⟩
  obtain ⟨h0, _⟩ | ⟨_, gr, cr, cur, rfl, hgr, hgh, e0, e1⟩ := hr
  · omega
  have HB4 := Lib.hid (bldF_below h3 hb4)
  have hb04 := hb03.trans (hb4.mono hb03.size)
  have hz4 := hb4.size
  have HG := Lib.hid (And.intro hgh (And.intro e0 e1))
  clear z0 z1 z2 z3 z4 z5 z6 z7 h3 hb4 hgh e0 e1 HRN hb03
  have HPI0 := Lib.hid (fun W hW => pInt_in 0 (by decide) (by decide) W hW)
  have HPIN := Lib.hid (fun W hW => pInt_in (N : Int) (by omega) (by omega) W hW)
  rw [show intV 0 = .tuple #[.string ⟨#[48]⟩, .int .i64 0] by have := intV_nat 0 (by decide); rw [show digU 0 = [48] by unfold digU; rfl] at this; exact this] at HPI0
  rw [intV_nat N (by omega)] at HPIN
  obtain ⟨D, hD⟩ : ∃ D, digU N = D := ⟨_, rfl⟩
  have hDl : D.length ≤ 20 := by rw [← hD]; exact Nat.le_trans (digU_len N 10 (Nat.lt_of_le_of_lt hn1 (by decide))) (by decide)
  rw [hD] at HPIN HR
  clear hD
  go_wp2
  go_loopw [8, 38] (fun lv i wr => (lv = .slice p N cp ∧ i = .int .i64 0 ∧ bldF wr B [120, 114, 101, 102, 10] ∧ Below w4.heap.size w4 wr) ∨
    (i = .int .i64 1 ∧ bldF wr B ([120, 114, 101, 102, 10] ++ (48 :: 32 :: (D ++ 10 :: l.flatMap rowW))) ∧ Below w0.heap.size w0 wr)) (fun _ i _ => 1 - (intOf i).toNat)
  case atStart => exact .inl ⟨rfl, rfl, HB4.out, Below.refl _ _⟩
  case round =>
    obtain ⟨rfl, rfl, hbl, hbr⟩ | ⟨rfl, hbl, hbr⟩ := hrel
    · have q0 : wr.cell? ⟨gr, 0, none⟩ = some (.int .i64 0) := by
        have := (hbr.block _ (lt_of_block HG.out.1)).trans HG.out.1
        simp [World.cell?, this, HG.out.2.1]
      have q1 : wr.cell? ⟨gr, 1, none⟩ = some (.int .i64 N) := by
        have := (hbr.block _ (lt_of_block HG.out.1)).trans HG.out.1
        simp [World.cell?, this, HG.out.2.2]
      have hgne : ¬ gr = wr.heap.size := by have := hbr.size; have := lt_of_block HG.out.1; omega
      go_wp2_with fail
      have hb0r : Below w0.heap.size w0 wr := hb04.trans (hbr.mono hb04.size)
      have hb5 : Below wr.heap.size wr (wr.alloc (.cells #[.int .i64 0, .int .i64 N] 119)) := (Below.refl _ _).alloc (Nat.le_refl _) _
      refine (HPI0.out _ (hT.below (hbw0.trans ((hb0r.trans (hb5.mono hb0r.size)).mono hbw0.size)))).mono ?_
      rintro e w5 ⟨rfl, hb6⟩
      have X5 := (hb6.block _ (by simp)).trans (heap_new_at wr (.cells #[.int .i64 0, .int .i64 N] 119) _ rfl)
      have c5 : w5.cell? ⟨wr.heap.size, 1, none⟩ = some (.int .i64 N) := by simp [World.cell?, X5]
      have hbr5 : Below wr.heap.size wr w5 := hb5.trans (hb6.mono hb5.size)
      have hz5 : wr.heap.size < w5.heap.size := by have := hb6.size; simp at this; omega
      clear hb5 hb6
      go_wp2_with fail
      refine (HPIN.out _ (hT.below (hbw0.trans ((hb0r.trans (hbr5.mono hb0r.size)).mono hbw0.size)))).mono ?_
      rintro e w6 ⟨rfl, hb6⟩
      have X6 := (hb6.block _ hz5).trans X5
      have c6 : w6.cell? ⟨wr.heap.size, 1, none⟩ = some (.int .i64 N) := by simp [World.cell?, X6]
      have hbr6 : Below wr.heap.size wr w6 := hbr5.trans (hb6.mono hbr5.size)
      have hz6 : wr.heap.size < w6.heap.size := Nat.lt_of_lt_of_le hz5 hb6.size
      have g1 : 1 + D.length + 1 ≤ 9223372036854775807 := by omega
      clear hb6 c5 X5 hbr5
      go_wp2_with fail
      rw [show (⟨#[48]⟩ ++ ⟨#[32]⟩ ++ ⟨D.toArray⟩ ++ ⟨#[10]⟩ : ByteArray) = ⟨(48 :: 32 :: (D ++ [10])).toArray⟩ by simp [ByteArray.mk_append_mk]]
      have hzr := hbr.size
      refine (blf_str B _ _ w6 (bldF_below hbl (hbr6.mono (Nat.le_refl _))) ?hl1 (by omega)).mono ?_
      case hl1 => show 5 + (48 :: 32 :: (D ++ [10])).length ≤ _; simp; omega
      rintro e w7 ⟨rfl, h7, hb7, hk7⟩
      have X7 := hk7 _ _ X6 (by simp; omega) (by rintro c fz ⟨⟩)
      have c7 : w7.cell? ⟨wr.heap.size, 1, none⟩ = some (.int .i64 N) := by simp [World.cell?, X7]
      have hb07 : Below w0.heap.size w0 w7 := (hb0r.trans (hbr6.mono hb0r.size)).trans (hb7.mono hB0)
      have hz7 := hb7.size
      obtain ⟨q, hq⟩ : ∃ q, wr.heap.size = q := ⟨_, rfl⟩
      rw [hq] at X7 c7 hz6 ⊢
      clear q0 q1 hgne c6 X6 hbr6 hk7 hb7 HB4 g1 HPI0 HPIN hbl
      have gN0 : (0 : Int) ≤ (N : Int) := by omega
      have hcp0 : (N : Int) ≤ (cp : Int) := by omega
      obtain ⟨pre, hpre⟩ : ∃ pre : L, [120, 114, 101, 102, 10] ++ (48 :: 32 :: (D ++ [10])) = pre := ⟨_, rfl⟩
      have hpl : pre.length ≤ 40 := by rw [← hpre]; simp; omega
      have h7' : bldF w7 B pre := by rw [← hpre]; exact h7
      have HPRE := Lib.hid hpre
      clear h7 hpre
      go_wp2
      go_loopw [65] (fun i wq => ∃ k : Nat, k ≤ N ∧ i = .int .i64 k ∧ Hid (bldF wq B (pre ++ (l.take k).flatMap rowW)) ∧ Below w0.heap.size w0 wq ∧ w7.heap.size ≤ wq.heap.size ∧ wq.heap[q]? = some (.cells #[.int .i64 0, .int .i64 N] 119 (0, 0))) (fun i _ => N - (intOf i).toNat)
      case atStart => exact ⟨0, Nat.zero_le _, rfl, Lib.hid (by simpa using h7'), hb07, Nat.le_refl _, X7⟩
      case round =>
        clear c7 X7 h7'
        obtain ⟨k, hk, rfl, HBL, hbq, hzq, XQ⟩ := hrel
        by_cases hlk : k < N
        · have hvr : RArg slE wr (.slice p N cp) l := HV.out.below (hbw0.trans (hbq.mono hbw0.size))
          have hk' : k < l.length := by rw [HN.out]; exact hlk
          obtain ⟨b, off, rfl, hblt, a0, a1, a2, a3⟩ := slot_at hvr k hk'
          obtain ⟨_, hK, hA0, hA1, hG0, hG1, _⟩ := HL.out k l[k] (List.getElem?_eq_getElem hk')
          have htk : (l.take (k + 1)).flatMap rowW = (l.take k).flatMap rowW ++ rowW l[k] := by
            rw [List.take_succ_eq_append_getElem hk', List.flatMap_append]; simp
          have hrl : ((l.take k).flatMap rowW).length ≤ 20 * 8192 := by
            have : ∀ (m : List Sl), (∀ x ∈ m, (rowW x).length ≤ 20) → (m.flatMap rowW).length ≤ 20 * m.length := by
              intro m
              induction m with
              | nil => intro _; simp
              | cons y m ih =>
                intro h
                have h1 := h y List.mem_cons_self
                have h2 := ih fun x hx => h x (List.mem_cons_of_mem _ hx)
                simp only [List.flatMap_cons, List.length_append, List.length_cons]
                omega
            refine Nat.le_trans (this _ fun x hx => ?_) ?_
            · obtain ⟨j, hj, rfl⟩ := List.getElem_of_mem (List.mem_of_mem_take hx)
              obtain ⟨_, _, q0, q1, q2, q3, _⟩ := HL.out j l[j] (List.getElem?_eq_getElem hj)
              have e1 := padW_len 10 l[j].a.toNat (digU_len _ 9 (by omega))
              have e2 := padW_len 5 l[j].b.toNat (digU_len _ 4 (by omega))
              unfold rowW
              simp only [List.length_append, List.length_cons, List.length_nil, e1, e2]
              omega
            · rw [List.length_take]; omega
          obtain ⟨M, hMe⟩ : ∃ N, l[k].num = N := ⟨_, rfl⟩
          obtain ⟨kd, hke⟩ : ∃ N, l[k].kind = N := ⟨_, rfl⟩
          obtain ⟨a, hae⟩ : ∃ N, l[k].a = N := ⟨_, rfl⟩
          obtain ⟨gg, hge⟩ : ∃ N, l[k].b = N := ⟨_, rfl⟩
          have hrow : rowW l[k] = padW 10 a.toNat ++ 32 :: (padW 5 gg.toNat ++ [32, if kd = 1 then 110 else 102, 32, 10]) := by unfold rowW; rw [hae, hge, hke]
          rw [hMe] at a0
          rw [hke] at a1 hK
          rw [hae] at a2 hA0 hA1
          rw [hge] at a3 hG0 hG1
          rw [hrow] at htk
          clear hrow hMe hke hae hge
          obtain ⟨A, rfl⟩ := Int.eq_ofNat_of_zero_le hA0
          obtain ⟨G, rfl⟩ := Int.eq_ofNat_of_zero_le hG0
          simp only [Int.toNat_natCast] at htk
          have HP1 := Lib.hid (show ∀ W, TabP W → Calls Tryz.prog 92 #[.int .i64 (A : Int), .int .i64 10] W fun e w' => e = .returned (.string ⟨(padW 10 A).toArray⟩) ∧ Below W.heap.size W w' from fun W hW => pad_in A 10 (by omega) (by decide) (by decide) (digU_len _ 9 (by omega)) W hW)
          have HP2 := Lib.hid (show ∀ W, TabP W → Calls Tryz.prog 92 #[.int .i64 (G : Int), .int .i64 5] W fun e w' => e = .returned (.string ⟨(padW 5 G).toArray⟩) ∧ Below W.heap.size W w' from fun W hW => pad_in G 5 (by omega) (by decide) (by decide) (digU_len _ 4 (by omega)) W hW)
          have e1 := padW_len 10 A (digU_len _ 9 (by omega))
          have e2 := padW_len 5 G (digU_len _ 4 (by omega))
          obtain ⟨P1, hP1⟩ : ∃ P, padW 10 A = P := ⟨_, rfl⟩
          obtain ⟨P2, hP2⟩ : ∃ P, padW 5 G = P := ⟨_, rfl⟩
          rw [hP1] at HP1 htk e1
          rw [hP2] at HP2 htk e2
          obtain ⟨acc, hacc⟩ : ∃ acc, (l.take k).flatMap rowW = acc := ⟨_, rfl⟩
          rw [hacc] at hrl HBL htk
          clear hacc
          have HTK := Lib.hid htk
          have HTW := Lib.hid (hT.below (hbw0.trans (hbq.mono hbw0.size)))
          have hbne := Nat.ne_of_lt hblt
          clear hvr htk hP1 hP2 hA0 hA1 hG0 hG1
          by_cases hk1 : kd = 1
          · subst hk1
            rw [if_pos rfl] at HTK
            go_wp2
            obtain ⟨w8, hw8⟩ : ∃ w8, wr.alloc (.cells #[.int .i64 M, .int .i64 1, .int .i64 A, .int .i64 G] 48) = w8 := ⟨_, rfl⟩
            have X8 : w8.heap[wr.heap.size]? = some (.cells #[.int .i64 M, .int .i64 1, .int .i64 A, .int .i64 G] 48 (0, 0)) := by rw [← hw8]; exact heap_new_at wr _ _ rfl
            have hb8 : Below wr.heap.size wr w8 := by rw [← hw8]; exact (Below.refl _ wr).alloc (Nat.le_refl _) _
            rw [hw8]
            have hz8 : w8.heap.size = wr.heap.size + 1 := by rw [← hw8]; simp
            clear hw8
            obtain ⟨_, _, k2, k3⟩ := four_of (show w8.drew.heap[wr.heap.size]? = _ from X8)
            have HB8 := Lib.hid (show Below wr.heap.size wr w8.drew from hb8.drew)
            have HZ8 := Lib.hid (show wr.heap.size < w8.drew.heap.size by show wr.heap.size < w8.heap.size; omega)
            have HX8 := Lib.hid (show w8.drew.heap[wr.heap.size]? = some (.cells #[.int .i64 M, .int .i64 1, .int .i64 A, .int .i64 G] 48 (0, 0)) from X8)
            have g1 : ¬ 9223372036854775807 < P1.length + 1 := by omega
            have g2 : ¬ 9223372036854775807 < P1.length + 1 + P2.length := by omega
            have g3 : ¬ 9223372036854775807 < P1.length + 1 + P2.length + 1 := by omega
            have g4 : ¬ 9223372036854775807 < P1.length + 1 + P2.length + 1 + 1 := by omega
            have g5 : ¬ 9223372036854775807 < P1.length + 1 + P2.length + 1 + 1 + 2 := by omega
            have HBLB := Lib.hid (show B ≤ wr.heap.size by omega)
            go_region_held3 (fun w' => w'.cell? ⟨wr.heap.size, 2, none⟩ = some (.int .i64 A) ∧ w'.cell? ⟨wr.heap.size, 3, none⟩ = some (.int .i64 G)) (go_keep)
              (first
                | (go_at_call 92; (first | (with_reducible refine (HP1.out _ (HTW.out.below HB8.out)).mono ?_) | (with_reducible refine (HP2.out _ (HTW.out.below HB8.out)).mono ?_)); rintro e w4 ⟨rfl, hb⟩; (replace HX8 := Lib.hid ((hb.block _ HZ8.out).trans HX8.out)); (replace HB8 := Lib.hid (HB8.out.trans (hb.mono HB8.out.size))); (replace HZ8 := Lib.hid (Nat.lt_of_lt_of_le HZ8.out hb.size)); obtain ⟨_, _, k2, k3⟩ := four_of HX8.out; clear hb)
                | (go_at_call 52; (refine (blf_str B _ _ _ (bldF_below HBL.out HB8.out) (by simp [ByteArray.size]; omega) (Nat.le_trans HBLB.out HB8.out.size)).mono ?_); rintro e w7 ⟨rfl, hbl, hb, hok⟩; have HBF := Lib.hid hbl; have HBZ := Lib.hid ((HB8.out.mono HBLB.out).trans hb); have XQ7 := Lib.hid (hok _ _ ((HB8.out.block _ (lt_of_block XQ)).trans XQ) (by simp; omega) (by rintro c fz ⟨⟩)); (replace HX8 := Lib.hid (hok _ _ HX8.out (by simp; omega) (by rintro c fz ⟨⟩))); obtain ⟨_, _, k2, k3⟩ := four_of HX8.out; clear hbl hb hok))
            all_goals go_wp2
            all_goals go_roundw
            case rel => exact ⟨k + 1, by omega, by go_num, Lib.hid (by rw [HTK.out]; have := HBF.out; simpa [ByteArray.mk_append_mk] using this), hbq.trans (HBZ.out.mono hB0), Nat.le_trans hzq HBZ.out.size, XQ7.out⟩
            case measure => simp [intOf]; omega
          · obtain rfl : kd = 0 := by omega
            rw [if_neg hk1] at HTK
            go_wp2
            obtain ⟨w8, hw8⟩ : ∃ w8, wr.alloc (.cells #[.int .i64 M, .int .i64 0, .int .i64 A, .int .i64 G] 48) = w8 := ⟨_, rfl⟩
            have X8 : w8.heap[wr.heap.size]? = some (.cells #[.int .i64 M, .int .i64 0, .int .i64 A, .int .i64 G] 48 (0, 0)) := by rw [← hw8]; exact heap_new_at wr _ _ rfl
            have hb8 : Below wr.heap.size wr w8 := by rw [← hw8]; exact (Below.refl _ wr).alloc (Nat.le_refl _) _
            rw [hw8]
            have hz8 : w8.heap.size = wr.heap.size + 1 := by rw [← hw8]; simp
            clear hw8
            obtain ⟨_, _, k2, k3⟩ := four_of (show w8.drew.heap[wr.heap.size]? = _ from X8)
            have HB8 := Lib.hid (show Below wr.heap.size wr w8.drew from hb8.drew)
            have HZ8 := Lib.hid (show wr.heap.size < w8.drew.heap.size by show wr.heap.size < w8.heap.size; omega)
            have HX8 := Lib.hid (show w8.drew.heap[wr.heap.size]? = some (.cells #[.int .i64 M, .int .i64 0, .int .i64 A, .int .i64 G] 48 (0, 0)) from X8)
            have g1 : ¬ 9223372036854775807 < P1.length + 1 := by omega
            have g2 : ¬ 9223372036854775807 < P1.length + 1 + P2.length := by omega
            have g3 : ¬ 9223372036854775807 < P1.length + 1 + P2.length + 1 := by omega
            have g4 : ¬ 9223372036854775807 < P1.length + 1 + P2.length + 1 + 1 := by omega
            have g5 : ¬ 9223372036854775807 < P1.length + 1 + P2.length + 1 + 1 + 2 := by omega
            have HBLB := Lib.hid (show B ≤ wr.heap.size by omega)
            go_region_held3 (fun w' => w'.cell? ⟨wr.heap.size, 2, none⟩ = some (.int .i64 A) ∧ w'.cell? ⟨wr.heap.size, 3, none⟩ = some (.int .i64 G)) (go_keep)
              (first
                | (go_at_call 92; (first | (with_reducible refine (HP1.out _ (HTW.out.below HB8.out)).mono ?_) | (with_reducible refine (HP2.out _ (HTW.out.below HB8.out)).mono ?_)); rintro e w4 ⟨rfl, hb⟩; (replace HX8 := Lib.hid ((hb.block _ HZ8.out).trans HX8.out)); (replace HB8 := Lib.hid (HB8.out.trans (hb.mono HB8.out.size))); (replace HZ8 := Lib.hid (Nat.lt_of_lt_of_le HZ8.out hb.size)); obtain ⟨_, _, k2, k3⟩ := four_of HX8.out; clear hb)
                | (go_at_call 52; (refine (blf_str B _ _ _ (bldF_below HBL.out HB8.out) (by simp [ByteArray.size]; omega) (Nat.le_trans HBLB.out HB8.out.size)).mono ?_); rintro e w7 ⟨rfl, hbl, hb, hok⟩; have HBF := Lib.hid hbl; have HBZ := Lib.hid ((HB8.out.mono HBLB.out).trans hb); have XQ7 := Lib.hid (hok _ _ ((HB8.out.block _ (lt_of_block XQ)).trans XQ) (by simp; omega) (by rintro c fz ⟨⟩)); (replace HX8 := Lib.hid (hok _ _ HX8.out (by simp; omega) (by rintro c fz ⟨⟩))); obtain ⟨_, _, k2, k3⟩ := four_of HX8.out; clear hbl hb hok))
            all_goals go_wp2
            all_goals go_roundw
            case rel => exact ⟨k + 1, by omega, by go_num, Lib.hid (by rw [HTK.out]; have := HBF.out; simpa [ByteArray.mk_append_mk] using this), hbq.trans (HBZ.out.mono hB0), Nat.le_trans hzq HBZ.out.size, XQ7.out⟩
            case measure => simp [intOf]; omega
        · have HALL := Lib.hid (show bldF wr B (pre ++ l.flatMap rowW) by have := HBL.out; rw [List.take_of_length_le (by rw [HN.out]; omega)] at this; exact this)
          have c9 : wr.cell? ⟨q, 1, none⟩ = some (.int .i64 N) := by simp [World.cell?, XQ]
          clear HBL
          go_wp2
          go_roundw
          case rel => exact .inr ⟨by go_num, by have := HALL.out; rw [← HPRE.out] at this; simpa using this, hbq⟩
          case measure => simp [intOf]
    · have hTl := HTL.out
      have g1 : ¬ 9223372036854775807 < 8 + T.length := by omega
      have g2 : ¬ 9223372036854775807 < 8 + T.length + 1 := by omega
      have hfl : (l.flatMap rowW).length ≤ 1000000 := by
        have : ∀ (m : List Sl), (∀ x ∈ m, (rowW x).length ≤ 20) → (m.flatMap rowW).length ≤ 20 * m.length := by
          intro m
          induction m with
          | nil => intro _; simp
          | cons y m ih =>
            intro h
            have h1 := h y List.mem_cons_self
            have h2 := ih fun x hx => h x (List.mem_cons_of_mem _ hx)
            simp only [List.flatMap_cons, List.length_append, List.length_cons]
            omega
        refine Nat.le_trans (this _ fun x hx => ?_) (by rw [HN.out]; omega)
        obtain ⟨j, hj, rfl⟩ := List.getElem_of_mem hx
        obtain ⟨_, _, q0, q1, q2, q3, _⟩ := HL.out j l[j] (List.getElem?_eq_getElem hj)
        have e1 := padW_len 10 l[j].a.toNat (digU_len _ 9 (by omega))
        have e2 := padW_len 5 l[j].b.toNat (digU_len _ 4 (by omega))
        unfold rowW
        simp only [List.length_append, List.length_cons, List.length_nil, e1, e2]
        omega
      have hz4' := hbr.size
      obtain ⟨F, hF⟩ : ∃ F, l.flatMap rowW = F := ⟨_, rfl⟩
      rw [hF] at hbl HR hfl
      clear hF
      have hBr : B ≤ wr.heap.size := Nat.le_of_lt (bldF_lt hbl)
      go_wp2_with fail
      rw [show (⟨#[116, 114, 97, 105, 108, 101, 114, 10]⟩ ++ ⟨T.toArray⟩ ++ ⟨#[10]⟩ : ByteArray) = ⟨(wTrailer ++ (T ++ [10])).toArray⟩ by simp [ByteArray.mk_append_mk, wTrailer]]
      refine (blf_str B _ _ wr hbl ?hl2 hBr).mono ?_
      case hl2 =>
        show _ + (wTrailer ++ (T ++ [10])).length ≤ _
        simp [wTrailer]; omega
      rintro e w5 ⟨rfl, h5, hb5, _⟩
      go_wp2_with fail
      refine (blf_get B _ w5 h5 (Nat.le_trans hBr hb5.size)).mono ?_
      rintro e w6 ⟨rfl, hb6⟩
      have HE := Lib.hid (hbw0.trans (((hbr.trans (hb5.mono hB0)).trans (hb6.mono hB0)).mono hbw0.size))
      go_wp2
      go_ret2
      exact ⟨by rw [HR.out]; simp [wXref], HE.out⟩
end Go.Proofs.YtfgdhcemidlnfaaGreatDoor
