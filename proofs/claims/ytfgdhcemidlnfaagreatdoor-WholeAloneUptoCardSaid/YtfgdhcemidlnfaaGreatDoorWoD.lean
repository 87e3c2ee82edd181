/- The walk of whole.made. -/
import Derived.Test.YtfgdhcemidlnfaaGreatDoorGPlB
import Derived.Test.YtfgdhcemidlnfaaGreatDoorGTb
import Derived.Test.YtfgdhcemidlnfaaGreatDoorWoC
import Derived.Test.YtfgdhcemidlnfaaGreatDoorTbE
set_option linter.all false
namespace Go.Proofs.YtfgdhcemidlnfaaGreatDoor
open Go.RowKit Fo

theorem ok_below {e : TypeId} {bo : Option Nat} {w w' : World} (hb : Below w.heap.size w w') : Lib.OthersKept e bo w w' :=
  fun k _ h _ _ => (hb.block k ((Array.getElem?_eq_some_iff.1 h).1)).trans h
/-- The slots' row stands where only bytes and the file's block turn. -/
theorem row_kept {w w' : World} {B fb : Nat} {v : Value} {xs : List Sl} (h : rownS slE 48 w B v xs) (hB : fb < B) (hk : Lib.OthersKept 5 (some fb) w w') : rownS slE 48 w' B v xs := by
  rcases h with ⟨h0, h1 | ⟨g, cap, cur, h1, h2, h3, h4⟩⟩
  · exact ⟨h0, .inl h1⟩
  · exact ⟨h0, .inr ⟨g, cap, cur, h1, h2, hk g _ h3 (fun e => by simp at e; omega) (fun c fz e => by cases e), h4⟩⟩
theorem hb_step {B : Nat} {w0 w w' : World} (h : Below B w0 w) (hb : Below w.heap.size w w') (hB : B ≤ w.heap.size) : Below B w0 w' := h.trans (hb.mono hB)
theorem hb_stepA {B : Nat} {w0 w w' : World} {o : Go.Obj} (h : Below B w0 w) (hb : Below (w.alloc o).heap.size (w.alloc o) w') (hB : B ≤ w.heap.size) : Below B w0 w' :=
  (h.alloc hB o).trans (hb.mono (by simp; omega))
theorem setS_in (S : Nat → Prop) (d : Nat) (w : World) (l : List It) (t : Ob) (p1 p2 : Option Addr) (n1 c1 n2 c2 : Nat) (h : ObjAt S d w (objCells t.kind t.n t.g t.s (.slice p1 n1 c1) (.slice p2 n2 c2)) t) (hT : TrailOk l t) (m : Int) (h1 : -2147483647 ≤ m) (h2 : m ≤ 2147483647) (hS : ∀ b, S b → b < w.heap.size) :
    Calls Tryz.prog 48 #[.agg #[.int .i64 t.kind, .int .i64 t.n, .int .i64 t.g, .string ⟨t.s.toArray⟩, .slice p1 n1 c1, .slice p2 n2 c2], .string ⟨#[83, 105, 122, 101]⟩, .agg #[.int .i64 2, .int .i64 m, .int .i64 0, .string ⟨#[]⟩, .slice none 0 0, .slice none 0 0]] w (SetOut 24 w (putO t wSize (.int m))) := by
  have h9 : t.kind ≠ 9 := by rw [hT.kind]; decide
  have hok := okO_of_check hT.chk h9
  have hcL := hT.size h1 h2
  have hokL := okO_of_check hcL (by unfold putO; exact h9)
  have := vSet_in S 23 w _ _ t (.int m) wSize (obj_at_ok 24 d h hok) (int_at S 22 w _) hS (.inl hT.kind) hT.chk hcL hT.no_size (show (2 : Int) ≠ 0 by decide) (okO_small _ _ hok) (okO_small _ _ hokL) (okO_tame _ _ hokL) (((checkB_iff 23 _).1 hT.chk).many)
  exact this
/-- What made answers. -/
def MadeOut (D : Dc) (w : World) (e : Ending) (w' : World) : Prop := match fileW D with
  | .good (f, l) => ∃ p c, e = .returned (.tuple #[.string ⟨f.toArray⟩, .slice p l.length c, .int .i64 0]) ∧ RArg slE w' (.slice p l.length c) l ∧ Below w.heap.size w w'
  | .bad k => e = .returned (.tuple #[.string ⟨#[]⟩, .slice none 0 0, .int .i64 k]) ∧ Below w.heap.size w w'
set_option maxRecDepth 100000 in
set_option maxHeartbeats 4000000 in
theorem made_in (S : Nat → Prop) (d : Nat) (w : World) (cs : List Value) (D : Dc) (h : DocAt S d w cs D) (hS : ∀ b, S b → b < w.heap.size) (hfit : DocFit D) (hTW : TabP w) :
    Calls Tryz.prog 21 #[.agg cs.toArray] w (MadeOut D w) := by
  have HDC := Lib.hid (fun (W : World) (hW : Below w.heap.size w W) => dCheck_in S d W cs D (by
    obtain ⟨iv, tc, rfl, hI, hl, hsI, hO, hsT⟩ := h
    exact ⟨iv, tc, rfl, hI.kept (fun b h => hW.block b (hS b h)), hl, hsI, hO.kept (fun b h => hW.block b (hS b h)) _, hsT⟩) (fun b h => Nat.lt_of_lt_of_le (hS b h) hW.size))
  obtain ⟨iv, tc, rfl, hI, hl, hsI, hO, hsT⟩ := h
  obtain ⟨p1, n1, c1, p2, n2, c2, rfl⟩ := hO.shape
  obtain ⟨ip, ic, rfl⟩ := hI.slice
  obtain ⟨n, hn⟩ : ∃ n, D.items.length = n := ⟨_, rfl⟩
  rw [hn] at HDC hI ⊢
  unfold objCells at HDC ⊢
  by_cases h0 : docB D = 0
  rotate_left
  · have HR := Lib.hid (show ∀ e w', (e = .returned (.tuple #[.string ⟨#[]⟩, .slice none 0 0, .int .i64 (docB D)]) ∧ Below w.heap.size w w') → MadeOut D w e w' from fun e w' h => by unfold MadeOut; rw [fileW_bad h0]; exact h)
    have eC : (docB D != 0) = true := by simpa using h0
    obtain ⟨C, hC⟩ : ∃ C, docB D = C := ⟨_, rfl⟩
    rw [hC] at HDC HR eC
    clear h0 hI hl hsI hO hsT hS hn hC hfit hTW
    go_enter Tryz.func21, Tryz.ntmps21
    go_wp2_with fail
    refine (HDC.out _ (by repeat' (first | (with_reducible first | exact Below.refl _ _ | refine Below.drew ?_ | refine belowDrewN ?_ _ | refine belowIter ?_ ?_ _ _ | refine Below.setCell ?_ ?_ _ | refine Below.alloc ?_ ?_ _ | refine bT hb4 ?_ ?_ | refine bT hb3 ?_ ?_ | refine bT hb2 ?_ ?_ | refine bT hb1 ?_ ?_ | refine bT hbr ?_ ?_ | refine bT hb ?_ ?_) | (simp; done) | (simp; omega) | omega))).mono ?_
    rintro e w1 ⟨rfl, hb1⟩
    have hz1 := hb1.size
    simp at hz1
    go_wp2
    refine bodyPost_ret (v := .tuple #[.string ⟨#[]⟩, .slice none 0 0, .int .i64 C]) (by simp [results, Tryz.results21, go_sem]) rfl (HR.out _ _ ⟨rfl, (by repeat' (first | (with_reducible first | exact Below.refl _ _ | refine Below.drew ?_ | refine belowDrewN ?_ _ | refine belowIter ?_ ?_ _ _ | refine Below.setCell ?_ ?_ _ | refine Below.alloc ?_ ?_ _ | refine bT hb4 ?_ ?_ | refine bT hb3 ?_ ?_ | refine bT hb2 ?_ ?_ | refine bT hb1 ?_ ?_ | refine bT hbr ?_ ?_ | refine bT hb ?_ ?_) | (simp; done) | (simp; omega) | omega))⟩)
  · obtain ⟨r, ps, hM⟩ := made_ok h0 hfit
    rw [h0] at HDC
    have hne := valid_items h0
    have hlen0 : D.items.length ≠ 0 := by simpa using hne
    obtain ⟨j, rfl⟩ : ∃ j, n = j + 1 := ⟨n - 1, by omega⟩
    have HI := Lib.hid (And.intro hI (And.intro hl hn))
    have HSI := Lib.hid hsI
    have HS := Lib.hid hS
    have HTW := Lib.hid hTW
    have HO := Lib.hid hO
    have HM := Lib.hid hM
    have HF := Lib.hid (fileW_of h0 hM)
    have hj : j < 1000000 := by omega
    have wj : IntKind.i64.wrap (j : Int) = j := IntWalk.i64_in _ (by omega)
    have gj : decide (0 < (j : Int) + 1) = true := by rw [decide_eq_true_eq]; omega
    clear hI hl hsI hO hsT hS hn hfit hTW hM h0 hne hlen0
    go_enter Tryz.func21, Tryz.ntmps21
    go_wp2_with fail
    refine (HDC.out _ (by repeat' (first | (with_reducible first | exact Below.refl _ _ | refine Below.drew ?_ | refine belowDrewN ?_ _ | refine belowIter ?_ ?_ _ _ | refine Below.setCell ?_ ?_ _ | refine Below.alloc ?_ ?_ _ | refine bT hb4 ?_ ?_ | refine bT hb3 ?_ ?_ | refine bT hb2 ?_ ?_ | refine bT hb1 ?_ ?_ | refine bT hbr ?_ ?_ | refine bT hb ?_ ?_) | (simp; done) | (simp; omega) | omega))).mono ?_
    rintro e w1 ⟨rfl, hb1⟩
    have hz1 := hb1.size
    simp at hz1
    have A1 := (hb1.block _ (by simp)).trans (heap_new_at w _ _ rfl)
    have hbw1 : Below w.heap.size w w1 := (by repeat' (first | (with_reducible first | exact Below.refl _ _ | refine Below.drew ?_ | refine belowDrewN ?_ _ | refine belowIter ?_ ?_ _ _ | refine Below.setCell ?_ ?_ _ | refine Below.alloc ?_ ?_ _ | refine bT hb4 ?_ ?_ | refine bT hb3 ?_ ?_ | refine bT hb2 ?_ ?_ | refine bT hb1 ?_ ?_ | refine bT hbr ?_ ?_ | refine bT hb ?_ ?_) | (simp; done) | (simp; omega) | omega))
    clear hb1
    obtain ⟨a0, a1, a2, a3, a4, a5, a6⟩ := seven_of A1
    have hI1 : ItemsAt S (d + 1) w1 (.slice ip (j + 1) ic) D.items := HI.out.1.kept (fun b h => hbw1.block b (HS.out b h))
    have HBG := Lib.hid (begin_in S (d + 1) D.trail.kind D.trail.n D.trail.g ⟨D.trail.s.toArray⟩ ip p1 p2 (j + 1) ic n1 c1 n2 c2 D.items r ps w1 (HTW.out.below hbw1) hI1 HI.out.2.1 HSI.out (fun b h => Nat.lt_of_lt_of_le (HS.out b h) hbw1.size) HM.out.fit HM.out.items HM.out.parts (by have := HM.out.rlen; omega))
    clear hI1
    go_wp2_with fail
    refine HBG.out.mono ?_
    rintro e w2 ⟨rfl, hF2, hM2, hb2⟩
    obtain ⟨fb, hfb⟩ : ∃ fb, w1.heap.size + 2 = fb := ⟨_, rfl⟩
    obtain ⟨mb, hmb⟩ : ∃ mb, w1.heap.size + 1 = mb := ⟨_, rfl⟩
    rw [hfb, hmb] at hF2
    rw [hmb] at hM2
    rw [hfb]
    have hmf : mb < fb := by omega
    have hfl := fileB_lt hF2
    have A2 := (hb2.block _ (by omega)).trans A1
    have hbw2 := hbw1.trans (hb2.mono hbw1.size)
    have hwf : w.heap.size + 1 < fb := by omega
    clear HBG hb2 hbw1 A1 a0 a1 a2 a3 a4 a5 a6 hfb hmb
    obtain ⟨a0, a1, a2, a3, a4, a5, a6⟩ := seven_of A2
    have hI2 : ItemsAt S (d + 1) w2 (.slice ip (j + 1) ic) D.items := HI.out.1.kept (fun b h => hbw2.block b (HS.out b h))
    obtain ⟨b, off, rfl⟩ := hI2.addr HI.out.2.2 j (by omega)
    obtain ⟨i, y1, t1, x1, y2, t2, x2, hi, hsb, _, e0, _⟩ := item_kid hI2 HI.out.2.2 j (by omega)
    have hml := mostW_last HI.out.2.2 hi
    have hig := (numsB_iff i).1 (HM.out.items.all i (List.mem_of_getElem? hi)).1
    obtain ⟨M, hM⟩ : ∃ M : Nat, i.num = (M : Int) := ⟨i.num.toNat, by omega⟩
    have hMM : mostW D.items = M := by rw [hml, hM]; rfl
    rw [hM] at e0 hig
    have hM8 : M ≤ 8191 := by omega
    have hHM := HM.out
    have HSL := Lib.hid (fun (W : World) (hW : Below w2.heap.size w2 W) => slots_in fb mb D.items.length M ps W hM8 (fileB_map (fileB_below hF2 hW)) (Nat.lt_of_lt_of_le hfl hW.size) (hM2.below hW) HM.out.zero)
    have HSO : Hid (SlotsOk (slotsW ps M)) := Lib.hid (by
      have h1 := slots_ok hHM
      rw [hMM] at h1
      exact ⟨by rw [slotsW_len]; omega, h1⟩)
    have HTL : Hid ((tableW (slotsW ps M) (sizeT D)).length ≤ 1000000000) := Lib.hid (by have := tableW_le hHM; rw [hMM] at this; exact this)
    have HSZ := Lib.hid (show sizeT D = putO D.trail wSize (.int ((M : Int) + 1)) by unfold sizeT; rw [hMM])
    rw [hMM] at HF
    have wM : IntKind.i64.wrap ((M : Int) + 1) = (M : Int) + 1 := IntWalk.i64_in _ (by omega)
    clear hI2 hi hsb hml hig hM hMM hHM hM2
    go_wp2_with fail
    refine (HSL.out _ (Below.refl _ _)).mono ?_
    rintro e w3 ⟨sp, sc, rfl, hsc, hrow, hb3⟩
    have HRW := Lib.hid hrow
    have hF3 := fileB_below hF2 hb3
    have A3 := (hb3.block _ (by omega)).trans A2
    have hbw3 := hbw2.trans (hb3.mono hbw2.size)
    have hz3 := hb3.size
    clear hrow hb3 A2 a0 a1 a2 a3 a4 a5 a6 e0 HSL hF2
    have HSET := Lib.hid (fun (W : World) (hW : Below w3.heap.size w3 W) => setS_in S (d + 1) W D.items D.trail p1 p2 n1 c1 n2 c2 (HO.out.kept (fun b h => (hbw3.trans (hW.mono hbw3.size)).block b (HS.out b h)) _) HM.out.trail ((M : Int) + 1) (by omega) (by omega) (fun b h => Nat.lt_of_lt_of_le (HS.out b h) (Nat.le_trans hbw3.size hW.size)))
    obtain ⟨P, hP⟩ : ∃ P, sizeT D = P := ⟨_, rfl⟩
    have HPK := Lib.hid (And.intro HM.out.chk (And.intro HM.out.kind HM.out.bulk))
    rw [hP] at HPK HTL HF HSZ
    rw [← HSZ.out] at HSET
    have HVI := Lib.hid (fun W => vint_in ((M : Int) + 1) W)
    obtain ⟨TB, hTB⟩ : ∃ TB, tableW (slotsW ps M) P = TB := ⟨_, rfl⟩
    have HTB := Lib.hid hTB
    rw [hTB] at HTL HF
    clear hP hTB
    go_upto_region 12 with fail
    go_cut [7, 11] from 42 to 50 (fun s7 s11 wc => s7 = .int .i64 0 ∧ ∃ g r1 f1 r2 f2, s11 = .pointer (some ⟨g, 0, none⟩) ∧ wc.heap[g]? = some (.cells #[.int .i64 P.kind, .int .i64 P.n, .int .i64 P.g, .string ⟨P.s.toArray⟩, .slice r1 P.keys.length f1, .slice r2 P.kids.length f2] 26 (0, 0)) ∧
      ObjAt (fun b => b < wc.heap.size) 24 wc (objCells P.kind P.n P.g P.s (.slice r1 P.keys.length f1) (.slice r2 P.kids.length f2)) P ∧ Below w3.heap.size w3 wc)
    case first =>
      obtain ⟨k0, k1, k2, k3, k4, k5, k6⟩ := seven_of (show w3.drew.heap[w.heap.size]? = _ from A3)
      obtain ⟨l0, l1, l2, l3, l4, l5, l6⟩ := seven_of A3
      have HB5 := Lib.hid (show Below w3.heap.size w3 w3.drew from (Below.refl _ _).drew)
      have nz3 : ¬ w.heap.size = w3.heap.size := by omega
      have nz3' : ¬ w3.heap.size = w.heap.size := by omega
      go_region_held3 (fun w' => w'.cell? ⟨w.heap.size, 1, none⟩ = some (.int .i64 D.trail.kind) ∧ w'.cell? ⟨w.heap.size, 2, none⟩ = some (.int .i64 D.trail.n) ∧ w'.cell? ⟨w.heap.size, 3, none⟩ = some (.int .i64 D.trail.g) ∧ w'.cell? ⟨w.heap.size, 4, none⟩ = some (.string ⟨D.trail.s.toArray⟩) ∧ w'.cell? ⟨w.heap.size, 5, none⟩ = some (.slice p1 n1 c1) ∧ w'.cell? ⟨w.heap.size, 6, none⟩ = some (.slice p2 n2 c2)) (go_keep)
        (first
        | (go_at_call 49; (with_reducible refine (HVI.out _).mono ?_); rintro e w6 ⟨rfl, hb⟩; (try have Z5 := Lib.hid ((hb.block _ (by simp)).trans (heap_new_at _ _ _ rfl))); replace HB5 : Hid (Below w3.heap.size w3 w6) := Lib.hid (by first | exact hb_step HB5.out hb HB5.out.size | exact hb_stepA HB5.out hb HB5.out.size); have hz6 := hb.size; (try simp at hz6); have nz6 : ¬ w.heap.size = w6.heap.size := (by have := HB5.out.size; omega); have nz6' : ¬ w6.heap.size = w.heap.size := (by have := HB5.out.size; omega); obtain ⟨k0, k1, k2, k3, k4, k5, k6⟩ := seven_of ((HB5.out.block _ (by omega)).trans A3); (try clear hb))
        | (go_at_call 48; (first | with_reducible refine (HSET.out _ HB5.out).mono ?_ | with_reducible refine (HSET.out _ (HB5.out.alloc HB5.out.size _)).mono ?_); rintro e w7 ⟨r1, f1, r2, f2, rfl, hO7, hb⟩; have HO7 := Lib.hid hO7; (first | (have Z6 := Lib.hid ((hb.block _ (by simp)).trans (heap_new_at _ _ _ rfl)); obtain ⟨y0, y1, y2, y3, y4, y5, yf⟩ := six_of Z6.out) | (have Z6 := Lib.hid ((hb.block _ (by omega)).trans Z5.out); obtain ⟨y0, y1, y2, y3, y4, y5, yf⟩ := six_of Z6.out) | skip); replace HB5 : Hid (Below w3.heap.size w3 w7) := Lib.hid (by first | exact hb_step HB5.out hb HB5.out.size | exact hb_stepA HB5.out hb HB5.out.size); have hz7 := hb.size; (try simp at hz7); have nz7 : ¬ w.heap.size = w7.heap.size := (by have := HB5.out.size; omega); have nz7' : ¬ w7.heap.size = w.heap.size := (by have := HB5.out.size; omega); obtain ⟨k0, k1, k2, k3, k4, k5, k6⟩ := seven_of ((HB5.out.block _ (by omega)).trans A3); clear hO7; (try clear hb)))
      all_goals go_wp2_with fail
      all_goals go_meet
      · exact ⟨rfl, _, r1, f1, r2, f2, rfl, heap_new_at _ _ _ rfl, HO7.out.grow (fun b _ h2 => ⟨by simp; omega, Below.heap_alloc _ _ _ h2⟩), HB5.out.alloc HB5.out.size _⟩
      · exact ⟨rfl, _, r1, f1, r2, f2, rfl, set_six Z6.out, HO7.out.grow (fun b h1 h2 => ⟨by simpa using h2, (set6_grown _ _ 0 1 2 3 4 5 _ _ _ _ _ _).block b h2 (by (try simp at h1); simp; omega)⟩), HB5.out.grown (set6_grown _ _ 0 1 2 3 4 5 _ _ _ _ _ _) HB5.out.size (fun k h => by simp at h; omega)⟩
      · exact ⟨rfl, _, r1, f1, r2, f2, rfl, set_six Z6.out, HO7.out.grow (fun b h1 h2 => ⟨by simpa using h2, (set6_grown _ _ 0 1 2 3 4 5 _ _ _ _ _ _).block b h2 (by (try simp at h1); simp; omega)⟩), HB5.out.grown (set6_grown _ _ 0 1 2 3 4 5 _ _ _ _ _ _) HB5.out.size (fun k h => by simp at h; omega)⟩
    case rest =>
      obtain ⟨w4, rfl⟩ : ∃ w4, w4 = wc := ⟨_, rfl⟩
      obtain ⟨rfl, g, r1, f1, r2, f2, rfl, G4, hO4, hb4⟩ := hcut
      obtain ⟨y0, y1, y2, y3, y4, y5, yf⟩ := six_of G4
      have hF4 := fileB_below hF3 hb4
      have hbw4 := hbw3.trans (hb4.mono hbw3.size)
      have hz4 := hb4.size
      have HTT := ttext_in (fun b => b < w4.heap.size) 24 0 P.kind P.n P.g (-1) (-1) 0 P.s r1 r2 sp P.keys.length f1 P.kids.length f2 sc (slotsW ps M) P w4 (by rw [slotsW_len]; exact HRW.out.arg.below hb4) HSO.out (by rw [slotsW_len]; omega) (by rw [slotsW_len]; exact hsc) hO4
        (okO_small _ _ (okO_of_check HPK.out.1 (by rw [HPK.out.2.1]; decide))) (fun b h => h) HPK.out.1 HPK.out.2.1 HPK.out.2.1 (HTW.out.below hbw4) HPK.out.2.2
      rw [slotsW_len, HTB.out] at HTT
      have HTT2 := Lib.hid HTT
      have hrl : r.length ≤ 1051000000 := HM.out.rlen
      have HTBL := HTL.out
      have HR4 := Lib.hid (row_kept HRW.out (fb := fb) (by omega) (ok_below hb4))
      clear hO4 HTT G4 hb4 hF3 HSET HVI A3
      go_wp2_with fail
      refine (flen_in _ _ _ _ _ hF4 (by omega)).mono ?_
      rintro e w5 ⟨rfl, h5⟩
      obtain rfl := h5.symm
      go_wp2_with fail
      refine HTT2.out.mono ?_
      rintro e w6 ⟨rfl, hb6⟩
      have hF6 := fileB_below hF4 hb6
      have hbw6 := hbw4.trans (hb6.mono hbw4.size)
      have hz6 := hb6.size
      have HR6 := Lib.hid (row_kept HR4.out (fb := fb) (by omega) (ok_below hb6))
      clear hb6 hF4 HTT2 y0 y1 y2 y3 y4 y5 yf HR4
      go_wp2_with fail
      refine (fstr_in fb fb mb r _ w6 hF6 (by show r.length + TB.toArray.size ≤ _; simp; omega) (by omega)).mono ?_
      rintro e w7 ⟨rfl, hF7, hb7, hk7⟩
      have hF7' : fileB w7 fb fb mb (r ++ TB) := hF7
      have HR7 := Lib.hid (row_kept HR6.out (fb := fb) (by omega) hk7)
      have hbw7 := hbw6.trans (hb7.mono (by omega))
      have hz7 := hb7.size
      clear hF6 hb7 hk7 HR6 hF7
      have hal : (r ++ TB).length ≤ 2060000000 := by rw [List.length_append]; omega
      have htl := tailW_le (n := r.length) (by omega)
      obtain ⟨TL, hTL⟩ : ∃ TL, tailW r.length = TL := ⟨_, rfl⟩
      have HTAIL := Lib.hid (fun (W : World) (hW : TabP W) => tail_in r.length (by omega) W hW)
      rw [hTL] at HTAIL htl
      rw [hTL] at HF
      clear hTL
      go_upto_region 20 with fail
      go_cut [] from 73 to 78 (fun wc => fileB wc fb fb mb (r ++ TB ++ TL) ∧ Below w.heap.size w7 wc ∧ rownS slE 48 wc w2.heap.size (.slice sp (M + 1) sc) (slotsW ps M) ∧ w7.heap.size ≤ wc.heap.size)
      case first =>
        have HB5 := Lib.hid (show Below w7.heap.size w7 w7.drew from (Below.refl _ _).drew)
        go_region_held3 (fun _ => True) (trivial)
          (first
          | (go_at_call 53; (with_reducible refine (HTAIL.out _ (HTW.out.below (hbw7.trans (HB5.out.mono hbw7.size)))).mono ?_); rintro e w8 ⟨rfl, hb⟩; replace HB5 : Hid (Below w7.heap.size w7 w8) := Lib.hid (hb_step HB5.out hb HB5.out.size); clear hb)
          | (go_at_call 52; (refine (fstr_in fb fb mb (r ++ TB) _ _ (fileB_below hF7' HB5.out) (by show (r ++ TB).length + TL.toArray.size ≤ _; simp; omega) (by have := HB5.out.size; omega)).mono ?_); rintro e w9 ⟨rfl, hF9, hb9, hk9⟩; have HF9 := Lib.hid hF9; have HR9 := Lib.hid (row_kept (row_kept HR7.out (fb := fb) (by omega) (ok_below HB5.out)) (fb := fb) (by omega) hk9); have HB9 := Lib.hid ((HB5.out.mono (show w.heap.size ≤ w7.heap.size from hbw7.size)).trans (hb9.mono (show w.heap.size ≤ fb by omega))); have hz9 := Nat.le_trans HB5.out.size hb9.size; clear hF9 hb9 hk9))
        all_goals go_wp2_with fail
        all_goals go_meet
        all_goals exact ⟨HF9.out, HB9.out, HR9.out, hz9⟩
      case rest =>
        obtain ⟨w10, rfl⟩ : ∃ w4, w4 = wc := ⟨_, rfl⟩
        obtain ⟨hF10, hb10, hr10, hz10⟩ := hcut
        have hbw10 := hbw7.trans hb10
        have hFL : (r ++ TB ++ TL).length ≤ 3000000000 := by rw [List.length_append]; omega
        obtain ⟨FF, hFF⟩ : ∃ FF, r ++ TB ++ TL = FF := ⟨_, rfl⟩
        rw [← List.append_assoc, hFF] at HF
        rw [hFF] at hF10 hFL
        have hne : FF ≠ [] := by rw [← hFF]; intro h; have := HM.out.rne; simp at h; exact this h.1
        clear hFF hb10 HTAIL hF7' HR7 HTL htl
        go_wp2_with fail
        refine (flen_in _ _ _ _ _ hF10 (by omega)).mono ?_
        rintro e w11 ⟨rfl, h11⟩
        obtain rfl := h11.symm
        by_cases hbig : 1048576 < FF.length
        · have gb : decide ((FF.length : Int) > 1048576) = true := by simp; omega
          have HR := Lib.hid (show ∀ e w', (e = .returned (.tuple #[.string ⟨#[]⟩, .slice none 0 0, .int .i64 5]) ∧ Below w.heap.size w w') → MadeOut D w e w' from fun e w' h => by unfold MadeOut; rw [HF.out, if_pos hbig]; exact h)
          clear hbig
          go_wp2
          refine bodyPost_ret (v := .tuple #[.string ⟨#[]⟩, .slice none 0 0, .int .i64 5]) (by simp [results, Tryz.results21, go_sem]) rfl (HR.out _ _ ⟨rfl, hbw10⟩)
        · have gb : decide ((FF.length : Int) > 1048576) = false := by simp; omega
          have HR := Lib.hid (show ∀ e w', (e = .returned (.tuple #[.string ⟨FF.toArray⟩, .slice sp (M + 1) sc, .int .i64 0]) ∧ RArg slE w' (.slice sp (M + 1) sc) (slotsW ps M) ∧ Below w.heap.size w w') → MadeOut D w e w' from fun e w' h => by
            unfold MadeOut; rw [HF.out, if_neg hbig]
            refine ⟨sp, sc, ?_, ?_, h.2.2⟩
            · rw [slotsW_len]; exact h.1
            · rw [slotsW_len]; exact h.2.1)
          clear hbig
          go_wp2_with fail
          refine (fget_in fb fb mb FF hne _ hF10).mono ?_
          rintro e w12 ⟨rfl, hb12, hk12⟩
          have hr12 := row_kept hr10 (fb := fb) (by omega) hk12
          have hbw12 := hbw10.trans (hb12.mono (show w.heap.size ≤ fb by omega))
          go_wp2
          refine bodyPost_ret (v := .tuple #[.string ⟨FF.toArray⟩, .slice sp (M + 1) sc, .int .i64 0]) (by simp [results, Tryz.results21, go_sem]) rfl (HR.out _ _ ⟨rfl, hr12.arg, hbw12⟩)
end Go.Proofs.YtfgdhcemidlnfaaGreatDoor
