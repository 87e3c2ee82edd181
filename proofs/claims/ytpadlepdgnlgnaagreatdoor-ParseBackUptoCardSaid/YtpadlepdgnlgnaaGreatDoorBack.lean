/- The walk of the statement that the text of a valid object is parsed as that object. -/
import Derived.Test.YtpadlepdgnlgnaaGreatDoorBackThree
import Derived.Test.YtpadlepdgnlgnaaGreatDoorLives
set_option linter.all false
namespace Go.Proofs.YtpadlepdgnlgnaaGreatDoor
open Go.RowKit Fo

theorem ObjAt.upN {S : Nat → Prop} {w : World} {d : Nat} {cs : List Value} {o : Ob} (h : ObjAt S d w cs o) : ∀ k, ObjAt S (d + k) w cs o
  | 0 => h
  | k + 1 => ObjAt.up (d + k) (ObjAt.upN h k)
theorem small_next : ∀ (d : Nat) (o : Ob), smallO d o → smallO (d + 1) o
  | 0, _, h => h.elim
  | d + 1, o, h => ⟨h.1, h.2.1, h.2.2.1, h.2.2.2.1, fun k hk => small_next d k (h.2.2.2.2 k hk)⟩
theorem small_upN {d : Nat} {o : Ob} (h : smallO d o) : ∀ k, smallO (d + k) o
  | 0 => h
  | k + 1 => small_next (d + k) o (small_upN h k)
theorem drop_len {l r x : L} {z : Nat} (h1 : l = x ++ r) (h2 : r = l.drop z) (hz : z ≤ l.length) : z = x.length := by
  have := congrArg List.length h2
  rw [h1] at this hz
  simp only [List.length_drop, List.length_append] at this hz
  omega
theorem whole_of {l : L} {o : Ob} (h : readS l = .good (o, [10])) : wholeS l = .good o := by
  unfold wholeS
  rw [h]
  rfl
theorem lt_of_blk {w : World} {b : Nat} {o : Go.Obj} (h : w.heap[b]? = some o) : b < w.heap.size := by
  apply Classical.byContradiction; intro hn
  rw [Array.getElem?_eq_none (Nat.not_lt.1 hn)] at h; cases h
set_option maxRecDepth 100000 in
set_option maxHeartbeats 4000000 in
theorem back_other (d : Nat) (o : Ob) (cs : List Value) (rest : ByteArray) (m : Int) (w : World) (hm : MaxW w m) (hO : ObjAt (fun b => b < w.heap.size) d w cs o) (hbk : ∀ e, bulkO e o ≤ 1048576) (hk2 : (o.kind == 2) = false) :
    Calls Tryz.prog 4 #[.agg cs.toArray, .string rest] w fun e w' => e = .returned (.bool true) ∧ Below w.heap.size w w' := by
  have hsm := small_of (by decide) d cs o hO hbk
  obtain ⟨p1, c1, p2, c2, rfl⟩ := hO.form2
  have HZ := Lib.hid (fun W (hW : Below w.heap.size w W) => size_in (fun b => b < w.heap.size) d W _ o (hO.kept (fun b h => hW.block b h) d) hsm (fun b h => Nat.lt_of_lt_of_le h hW.size))
  have HY := Lib.hid (fun W (hW : Below w.heap.size w W) => bytes_in (fun b => b < w.heap.size) d W _ o (hO.kept (fun b h => hW.block b h) d) hsm (fun b h => Nat.lt_of_lt_of_le h hW.size))
  have HC := Lib.hid (fun W (hW : Below w.heap.size w W) => Check_in (fun b => b < w.heap.size) d W _ o (hO.kept (fun b h => hW.block b h) d) hsm (fun b h => Nat.lt_of_lt_of_le h hW.size) (check_in _ 24 (by decide)))
  have HT := Lib.hid (fun (hok : okO 24 o) W (hW : Below w.heap.size w W) => rtext_in (fun b => b < w.heap.size) 24 d W _ o (hO.kept (fun b h => hW.block b h) d) hok (by have := text_le 24 o hok; have := hbk 24; omega) (fun b h => Nat.lt_of_lt_of_le h hW.size))
  have HL := Lib.hid (fun W hm => lives_in m W hm)
  have HM := Lib.hid hm
  have HO := Lib.hid (And.intro hO hsm)
  unfold objCells at HZ HY HC HT
  obtain ⟨ck, hck⟩ : ∃ ck, checkB 24 o = ck := ⟨_, rfl⟩
  rw [hck] at HC
  have HCK := Lib.hid hck
  unfold objCells
  clear hck hO hsm hbk hm
  go_enter Tryz.func4, Tryz.ntmps4
  go_upto_region 1 with fail
  have G0 := heap_new_at w (.cells #[.int .i64 o.kind, .int .i64 o.n, .int .i64 o.g, .string ⟨o.s.toArray⟩, .slice p1 o.keys.length c1, .slice p2 o.kids.length c2] 26 (0, 0)) _ rfl
  have hb : Below w.heap.size w (w.alloc (.cells #[.int .i64 o.kind, .int .i64 o.n, .int .i64 o.g, .string ⟨o.s.toArray⟩, .slice p1 o.keys.length c1, .slice p2 o.kids.length c2] 26)) := (by repeat' (first | (with_reducible exact Below.refl _ _) | (with_reducible refine Below.drew ?_) | (with_reducible refine belowDrewN ?_ _) | (with_reducible refine belowIter ?_ ?_ _ _) | (with_reducible refine Below.setCell ?_ ?_ _) | (with_reducible refine Below.alloc ?_ ?_ _) | (with_reducible refine Below.trans ?_ (Below.mono hb4 ?_)) | (with_reducible refine Below.trans ?_ (Below.mono hb3 ?_)) | (with_reducible refine Below.trans ?_ (Below.mono hb2 ?_)) | (with_reducible refine Below.trans ?_ (Below.mono hb1 ?_)) | (with_reducible refine Below.trans ?_ (Below.mono hbr ?_)) | (with_reducible refine Below.trans ?_ (Below.mono hb ?_)) | (simp; done) | (simp; omega) | omega))
  have L0 : w.heap.size < (w.alloc (.cells #[.int .i64 o.kind, .int .i64 o.n, .int .i64 o.g, .string ⟨o.s.toArray⟩, .slice p1 o.keys.length c1, .slice p2 o.kids.length c2] 26)).heap.size := by simp
  obtain ⟨w0, hw0⟩ : ∃ w0, w.alloc (.cells #[.int .i64 o.kind, .int .i64 o.n, .int .i64 o.g, .string ⟨o.s.toArray⟩, .slice p1 o.keys.length c1, .slice p2 o.kids.length c2] 26) = w0 := ⟨_, rfl⟩
  rw [hw0] at G0 hb L0 ⊢
  have HG0 := Lib.hid G0
  clear hw0 G0
  obtain ⟨y0, y1, y2, y3, y4, y5, yf⟩ := six_of HG0.out
  go_wp2_with fail
  refine (HZ.out _ (by repeat' (first | (with_reducible exact Below.refl _ _) | (with_reducible refine Below.drew ?_) | (with_reducible refine belowDrewN ?_ _) | (with_reducible refine belowIter ?_ ?_ _ _) | (with_reducible refine Below.setCell ?_ ?_ _) | (with_reducible refine Below.alloc ?_ ?_ _) | (with_reducible refine Below.trans ?_ (Below.mono hb4 ?_)) | (with_reducible refine Below.trans ?_ (Below.mono hb3 ?_)) | (with_reducible refine Below.trans ?_ (Below.mono hb2 ?_)) | (with_reducible refine Below.trans ?_ (Below.mono hb1 ?_)) | (with_reducible refine Below.trans ?_ (Below.mono hbr ?_)) | (with_reducible refine Below.trans ?_ (Below.mono hb ?_)) | (simp; done) | (simp; omega) | omega))).mono ?_
  rintro e w1 ⟨⟨z1, rfl⟩, hb1⟩
  have hbw5 : Below w0.heap.size w0 w1 := (by repeat' (first | (with_reducible exact Below.refl _ _) | (with_reducible refine Below.drew ?_) | (with_reducible refine belowDrewN ?_ _) | (with_reducible refine belowIter ?_ ?_ _ _) | (with_reducible refine Below.setCell ?_ ?_ _) | (with_reducible refine Below.alloc ?_ ?_ _) | (with_reducible refine Below.trans ?_ (Below.mono hb4 ?_)) | (with_reducible refine Below.trans ?_ (Below.mono hb3 ?_)) | (with_reducible refine Below.trans ?_ (Below.mono hb2 ?_)) | (with_reducible refine Below.trans ?_ (Below.mono hb1 ?_)) | (with_reducible refine Below.trans ?_ (Below.mono hbr ?_)) | (with_reducible refine Below.trans ?_ (Below.mono hb ?_)) | (simp; done) | (simp; omega) | omega))
  clear y0 y1 y2 y3 y4 y5 yf hb1 HZ
  have hz5 := hbw5.size
  obtain ⟨y0, y1, y2, y3, y4, y5, yf⟩ := six_of ((hbw5.block _ L0).trans HG0.out)
  by_cases t1 : 400 < z1
  · skip
    go_wp2_with fail
    refine (HL.out _ (HM.out.below (by repeat' (first | (with_reducible exact Below.refl _ _) | (with_reducible refine Below.drew ?_) | (with_reducible refine belowDrewN ?_ _) | (with_reducible refine belowIter ?_ ?_ _ _) | (with_reducible refine Below.setCell ?_ ?_ _) | (with_reducible refine Below.alloc ?_ ?_ _) | (with_reducible refine Below.trans ?_ (Below.mono hb4 ?_)) | (with_reducible refine Below.trans ?_ (Below.mono hbw5 ?_)) | (with_reducible refine Below.trans ?_ (Below.mono hb2 ?_)) | (with_reducible refine Below.trans ?_ (Below.mono hb1 ?_)) | (with_reducible refine Below.trans ?_ (Below.mono hbr ?_)) | (with_reducible refine Below.trans ?_ (Below.mono hb ?_)) | (simp; done) | (simp; omega) | omega)))).mono ?_
    rintro e w9 ⟨rfl, hb4⟩
    go_wp2
    go_ret
    exact ⟨rfl, (by repeat' (first | (with_reducible exact Below.refl _ _) | (with_reducible refine Below.drew ?_) | (with_reducible refine belowDrewN ?_ _) | (with_reducible refine belowIter ?_ ?_ _ _) | (with_reducible refine Below.setCell ?_ ?_ _) | (with_reducible refine Below.alloc ?_ ?_ _) | (with_reducible refine Below.trans ?_ (Below.mono hb4 ?_)) | (with_reducible refine Below.trans ?_ (Below.mono hbw5 ?_)) | (with_reducible refine Below.trans ?_ (Below.mono hb2 ?_)) | (with_reducible refine Below.trans ?_ (Below.mono hb1 ?_)) | (with_reducible refine Below.trans ?_ (Below.mono hbr ?_)) | (with_reducible refine Below.trans ?_ (Below.mono hb ?_)) | (simp; done) | (simp; omega) | omega))⟩
  go_wp2_with fail
  refine (HY.out _ (by repeat' (first | (with_reducible exact Below.refl _ _) | (with_reducible refine Below.drew ?_) | (with_reducible refine belowDrewN ?_ _) | (with_reducible refine belowIter ?_ ?_ _ _) | (with_reducible refine Below.setCell ?_ ?_ _) | (with_reducible refine Below.alloc ?_ ?_ _) | (with_reducible refine Below.trans ?_ (Below.mono hb4 ?_)) | (with_reducible refine Below.trans ?_ (Below.mono hbw5 ?_)) | (with_reducible refine Below.trans ?_ (Below.mono hb2 ?_)) | (with_reducible refine Below.trans ?_ (Below.mono hb1 ?_)) | (with_reducible refine Below.trans ?_ (Below.mono hbr ?_)) | (with_reducible refine Below.trans ?_ (Below.mono hb ?_)) | (simp; done) | (simp; omega) | omega))).mono ?_
  rintro e w1 ⟨⟨z2, rfl⟩, hb1⟩
  have hbw5 : Below w0.heap.size w0 w1 := (by repeat' (first | (with_reducible exact Below.refl _ _) | (with_reducible refine Below.drew ?_) | (with_reducible refine belowDrewN ?_ _) | (with_reducible refine belowIter ?_ ?_ _ _) | (with_reducible refine Below.setCell ?_ ?_ _) | (with_reducible refine Below.alloc ?_ ?_ _) | (with_reducible refine Below.trans ?_ (Below.mono hb4 ?_)) | (with_reducible refine Below.trans ?_ (Below.mono hbw5 ?_)) | (with_reducible refine Below.trans ?_ (Below.mono hb2 ?_)) | (with_reducible refine Below.trans ?_ (Below.mono hb1 ?_)) | (with_reducible refine Below.trans ?_ (Below.mono hbr ?_)) | (with_reducible refine Below.trans ?_ (Below.mono hb ?_)) | (simp; done) | (simp; omega) | omega))
  clear y0 y1 y2 y3 y4 y5 yf hb1 HY
  have hz5 := hbw5.size
  obtain ⟨y0, y1, y2, y3, y4, y5, yf⟩ := six_of ((hbw5.block _ L0).trans HG0.out)
  by_cases t2 : 3000 < z2
  · skip
    go_wp2_with fail
    refine (HL.out _ (HM.out.below (by repeat' (first | (with_reducible exact Below.refl _ _) | (with_reducible refine Below.drew ?_) | (with_reducible refine belowDrewN ?_ _) | (with_reducible refine belowIter ?_ ?_ _ _) | (with_reducible refine Below.setCell ?_ ?_ _) | (with_reducible refine Below.alloc ?_ ?_ _) | (with_reducible refine Below.trans ?_ (Below.mono hb4 ?_)) | (with_reducible refine Below.trans ?_ (Below.mono hbw5 ?_)) | (with_reducible refine Below.trans ?_ (Below.mono hb2 ?_)) | (with_reducible refine Below.trans ?_ (Below.mono hb1 ?_)) | (with_reducible refine Below.trans ?_ (Below.mono hbr ?_)) | (with_reducible refine Below.trans ?_ (Below.mono hb ?_)) | (simp; done) | (simp; omega) | omega)))).mono ?_
    rintro e w9 ⟨rfl, hb4⟩
    go_wp2
    go_ret
    exact ⟨rfl, (by repeat' (first | (with_reducible exact Below.refl _ _) | (with_reducible refine Below.drew ?_) | (with_reducible refine belowDrewN ?_ _) | (with_reducible refine belowIter ?_ ?_ _ _) | (with_reducible refine Below.setCell ?_ ?_ _) | (with_reducible refine Below.alloc ?_ ?_ _) | (with_reducible refine Below.trans ?_ (Below.mono hb4 ?_)) | (with_reducible refine Below.trans ?_ (Below.mono hbw5 ?_)) | (with_reducible refine Below.trans ?_ (Below.mono hb2 ?_)) | (with_reducible refine Below.trans ?_ (Below.mono hb1 ?_)) | (with_reducible refine Below.trans ?_ (Below.mono hbr ?_)) | (with_reducible refine Below.trans ?_ (Below.mono hb ?_)) | (simp; done) | (simp; omega) | omega))⟩
  by_cases t3 : 1000 < rest.size
  · skip
    go_wp2_with fail
    refine (HL.out _ (HM.out.below (by repeat' (first | (with_reducible exact Below.refl _ _) | (with_reducible refine Below.drew ?_) | (with_reducible refine belowDrewN ?_ _) | (with_reducible refine belowIter ?_ ?_ _ _) | (with_reducible refine Below.setCell ?_ ?_ _) | (with_reducible refine Below.alloc ?_ ?_ _) | (with_reducible refine Below.trans ?_ (Below.mono hb4 ?_)) | (with_reducible refine Below.trans ?_ (Below.mono hbw5 ?_)) | (with_reducible refine Below.trans ?_ (Below.mono hb2 ?_)) | (with_reducible refine Below.trans ?_ (Below.mono hb1 ?_)) | (with_reducible refine Below.trans ?_ (Below.mono hbr ?_)) | (with_reducible refine Below.trans ?_ (Below.mono hb ?_)) | (simp; done) | (simp; omega) | omega)))).mono ?_
    rintro e w9 ⟨rfl, hb4⟩
    go_wp2
    go_ret
    exact ⟨rfl, (by repeat' (first | (with_reducible exact Below.refl _ _) | (with_reducible refine Below.drew ?_) | (with_reducible refine belowDrewN ?_ _) | (with_reducible refine belowIter ?_ ?_ _ _) | (with_reducible refine Below.setCell ?_ ?_ _) | (with_reducible refine Below.alloc ?_ ?_ _) | (with_reducible refine Below.trans ?_ (Below.mono hb4 ?_)) | (with_reducible refine Below.trans ?_ (Below.mono hbw5 ?_)) | (with_reducible refine Below.trans ?_ (Below.mono hb2 ?_)) | (with_reducible refine Below.trans ?_ (Below.mono hb1 ?_)) | (with_reducible refine Below.trans ?_ (Below.mono hbr ?_)) | (with_reducible refine Below.trans ?_ (Below.mono hb ?_)) | (simp; done) | (simp; omega) | omega))⟩
  go_wp2_with fail
  refine (HC.out _ (by repeat' (first | (with_reducible exact Below.refl _ _) | (with_reducible refine Below.drew ?_) | (with_reducible refine belowDrewN ?_ _) | (with_reducible refine belowIter ?_ ?_ _ _) | (with_reducible refine Below.setCell ?_ ?_ _) | (with_reducible refine Below.alloc ?_ ?_ _) | (with_reducible refine Below.trans ?_ (Below.mono hb4 ?_)) | (with_reducible refine Below.trans ?_ (Below.mono hbw5 ?_)) | (with_reducible refine Below.trans ?_ (Below.mono hb2 ?_)) | (with_reducible refine Below.trans ?_ (Below.mono hb1 ?_)) | (with_reducible refine Below.trans ?_ (Below.mono hbr ?_)) | (with_reducible refine Below.trans ?_ (Below.mono hb ?_)) | (simp; done) | (simp; omega) | omega))).mono ?_
  rintro e w1 ⟨rfl, hb1⟩
  have hbw5 : Below w0.heap.size w0 w1 := (by repeat' (first | (with_reducible exact Below.refl _ _) | (with_reducible refine Below.drew ?_) | (with_reducible refine belowDrewN ?_ _) | (with_reducible refine belowIter ?_ ?_ _ _) | (with_reducible refine Below.setCell ?_ ?_ _) | (with_reducible refine Below.alloc ?_ ?_ _) | (with_reducible refine Below.trans ?_ (Below.mono hb4 ?_)) | (with_reducible refine Below.trans ?_ (Below.mono hbw5 ?_)) | (with_reducible refine Below.trans ?_ (Below.mono hb2 ?_)) | (with_reducible refine Below.trans ?_ (Below.mono hb1 ?_)) | (with_reducible refine Below.trans ?_ (Below.mono hbr ?_)) | (with_reducible refine Below.trans ?_ (Below.mono hb ?_)) | (simp; done) | (simp; omega) | omega))
  clear y0 y1 y2 y3 y4 y5 yf hb1 HC
  have hz5 := hbw5.size
  obtain ⟨y0, y1, y2, y3, y4, y5, yf⟩ := six_of ((hbw5.block _ L0).trans HG0.out)
  cases t4 : (ck != 0)
  case true =>
    go_wp2_with fail
    refine (HL.out _ (HM.out.below (by repeat' (first | (with_reducible exact Below.refl _ _) | (with_reducible refine Below.drew ?_) | (with_reducible refine belowDrewN ?_ _) | (with_reducible refine belowIter ?_ ?_ _ _) | (with_reducible refine Below.setCell ?_ ?_ _) | (with_reducible refine Below.alloc ?_ ?_ _) | (with_reducible refine Below.trans ?_ (Below.mono hb4 ?_)) | (with_reducible refine Below.trans ?_ (Below.mono hbw5 ?_)) | (with_reducible refine Below.trans ?_ (Below.mono hb2 ?_)) | (with_reducible refine Below.trans ?_ (Below.mono hb1 ?_)) | (with_reducible refine Below.trans ?_ (Below.mono hbr ?_)) | (with_reducible refine Below.trans ?_ (Below.mono hb ?_)) | (simp; done) | (simp; omega) | omega)))).mono ?_
    rintro e w9 ⟨rfl, hb4⟩
    go_wp2
    go_ret
    exact ⟨rfl, (by repeat' (first | (with_reducible exact Below.refl _ _) | (with_reducible refine Below.drew ?_) | (with_reducible refine belowDrewN ?_ _) | (with_reducible refine belowIter ?_ ?_ _ _) | (with_reducible refine Below.setCell ?_ ?_ _) | (with_reducible refine Below.alloc ?_ ?_ _) | (with_reducible refine Below.trans ?_ (Below.mono hb4 ?_)) | (with_reducible refine Below.trans ?_ (Below.mono hbw5 ?_)) | (with_reducible refine Below.trans ?_ (Below.mono hb2 ?_)) | (with_reducible refine Below.trans ?_ (Below.mono hb1 ?_)) | (with_reducible refine Below.trans ?_ (Below.mono hbr ?_)) | (with_reducible refine Below.trans ?_ (Below.mono hb ?_)) | (simp; done) | (simp; omega) | omega))⟩
  cases t5 : (o.kind == 9)
  case true =>
    go_wp2_with fail
    refine (HL.out _ (HM.out.below (by repeat' (first | (with_reducible exact Below.refl _ _) | (with_reducible refine Below.drew ?_) | (with_reducible refine belowDrewN ?_ _) | (with_reducible refine belowIter ?_ ?_ _ _) | (with_reducible refine Below.setCell ?_ ?_ _) | (with_reducible refine Below.alloc ?_ ?_ _) | (with_reducible refine Below.trans ?_ (Below.mono hb4 ?_)) | (with_reducible refine Below.trans ?_ (Below.mono hbw5 ?_)) | (with_reducible refine Below.trans ?_ (Below.mono hb2 ?_)) | (with_reducible refine Below.trans ?_ (Below.mono hb1 ?_)) | (with_reducible refine Below.trans ?_ (Below.mono hbr ?_)) | (with_reducible refine Below.trans ?_ (Below.mono hb ?_)) | (simp; done) | (simp; omega) | omega)))).mono ?_
    rintro e w9 ⟨rfl, hb4⟩
    go_wp2
    go_ret
    exact ⟨rfl, (by repeat' (first | (with_reducible exact Below.refl _ _) | (with_reducible refine Below.drew ?_) | (with_reducible refine belowDrewN ?_ _) | (with_reducible refine belowIter ?_ ?_ _ _) | (with_reducible refine Below.setCell ?_ ?_ _) | (with_reducible refine Below.alloc ?_ ?_ _) | (with_reducible refine Below.trans ?_ (Below.mono hb4 ?_)) | (with_reducible refine Below.trans ?_ (Below.mono hbw5 ?_)) | (with_reducible refine Below.trans ?_ (Below.mono hb2 ?_)) | (with_reducible refine Below.trans ?_ (Below.mono hb1 ?_)) | (with_reducible refine Below.trans ?_ (Below.mono hbr ?_)) | (with_reducible refine Below.trans ?_ (Below.mono hb ?_)) | (simp; done) | (simp; omega) | omega))⟩
  have hok : okO 24 o := check_okO 24 o (by omega) (fun _ => by simpa using t5) (by rw [HCK.out]; simpa using t4)
  have HT2 := Lib.hid (HT.out hok)
  obtain ⟨T, hT⟩ : ∃ T, textO 24 o = T := ⟨_, rfl⟩
  rw [hT] at HT2
  have HTE := Lib.hid (And.intro hT hok)
  clear HT hT hok
  go_wp2_with fail
  refine (HT2.out _ (by repeat' (first | (with_reducible exact Below.refl _ _) | (with_reducible refine Below.drew ?_) | (with_reducible refine belowDrewN ?_ _) | (with_reducible refine belowIter ?_ ?_ _ _) | (with_reducible refine Below.setCell ?_ ?_ _) | (with_reducible refine Below.alloc ?_ ?_ _) | (with_reducible refine Below.trans ?_ (Below.mono hb4 ?_)) | (with_reducible refine Below.trans ?_ (Below.mono hbw5 ?_)) | (with_reducible refine Below.trans ?_ (Below.mono hb2 ?_)) | (with_reducible refine Below.trans ?_ (Below.mono hb1 ?_)) | (with_reducible refine Below.trans ?_ (Below.mono hbr ?_)) | (with_reducible refine Below.trans ?_ (Below.mono hb ?_)) | (simp; done) | (simp; omega) | omega))).mono ?_
  rintro e w1 ⟨rfl, hb1⟩
  have hbw5 : Below w0.heap.size w0 w1 := (by repeat' (first | (with_reducible exact Below.refl _ _) | (with_reducible refine Below.drew ?_) | (with_reducible refine belowDrewN ?_ _) | (with_reducible refine belowIter ?_ ?_ _ _) | (with_reducible refine Below.setCell ?_ ?_ _) | (with_reducible refine Below.alloc ?_ ?_ _) | (with_reducible refine Below.trans ?_ (Below.mono hb4 ?_)) | (with_reducible refine Below.trans ?_ (Below.mono hbw5 ?_)) | (with_reducible refine Below.trans ?_ (Below.mono hb2 ?_)) | (with_reducible refine Below.trans ?_ (Below.mono hb1 ?_)) | (with_reducible refine Below.trans ?_ (Below.mono hbr ?_)) | (with_reducible refine Below.trans ?_ (Below.mono hb ?_)) | (simp; done) | (simp; omega) | omega))
  clear y0 y1 y2 y3 y4 y5 yf hb1 HT2
  have hz5 := hbw5.size
  obtain ⟨y0, y1, y2, y3, y4, y5, yf⟩ := six_of ((hbw5.block _ L0).trans HG0.out)
  by_cases t6 : 100000 < T.length
  · skip
    go_wp2_with fail
    refine (HL.out _ (HM.out.below (by repeat' (first | (with_reducible exact Below.refl _ _) | (with_reducible refine Below.drew ?_) | (with_reducible refine belowDrewN ?_ _) | (with_reducible refine belowIter ?_ ?_ _ _) | (with_reducible refine Below.setCell ?_ ?_ _) | (with_reducible refine Below.alloc ?_ ?_ _) | (with_reducible refine Below.trans ?_ (Below.mono hb4 ?_)) | (with_reducible refine Below.trans ?_ (Below.mono hbw5 ?_)) | (with_reducible refine Below.trans ?_ (Below.mono hb2 ?_)) | (with_reducible refine Below.trans ?_ (Below.mono hb1 ?_)) | (with_reducible refine Below.trans ?_ (Below.mono hbr ?_)) | (with_reducible refine Below.trans ?_ (Below.mono hb ?_)) | (simp; done) | (simp; omega) | omega)))).mono ?_
    rintro e w9 ⟨rfl, hb4⟩
    go_wp2
    go_ret
    exact ⟨rfl, (by repeat' (first | (with_reducible exact Below.refl _ _) | (with_reducible refine Below.drew ?_) | (with_reducible refine belowDrewN ?_ _) | (with_reducible refine belowIter ?_ ?_ _ _) | (with_reducible refine Below.setCell ?_ ?_ _) | (with_reducible refine Below.alloc ?_ ?_ _) | (with_reducible refine Below.trans ?_ (Below.mono hb4 ?_)) | (with_reducible refine Below.trans ?_ (Below.mono hbw5 ?_)) | (with_reducible refine Below.trans ?_ (Below.mono hb2 ?_)) | (with_reducible refine Below.trans ?_ (Below.mono hb1 ?_)) | (with_reducible refine Below.trans ?_ (Below.mono hbr ?_)) | (with_reducible refine Below.trans ?_ (Below.mono hb ?_)) | (simp; done) | (simp; omega) | omega))⟩
  have hT24 := HTE.out.1
  have hok2 := HTE.out.2
  have e1 : (⟨T.toArray⟩ : ByteArray).size = T.length := rfl
  have e2 : (⟨#[32]⟩ : ByteArray).size = 1 := rfl
  have e3 : (⟨#[10]⟩ : ByteArray).size = 1 := rfl
  have hs1 : (⟨T.toArray⟩ ++ ⟨#[32]⟩ ++ rest : ByteArray).size ≤ 140737488355327 := by simp only [ByteArray.size_append]; omega
  have hs2 : (⟨#[32]⟩ ++ ⟨T.toArray⟩ ++ ⟨#[10]⟩ : ByteArray).size ≤ 140737488355327 := by simp only [ByteArray.size_append]; omega
  clear e1 e2 e3
  have hl1 : (⟨T.toArray⟩ ++ ⟨#[32]⟩ ++ rest : ByteArray).data.toList = T ++ 32 :: rest.data.toList := by simp
  have hl2 : (⟨#[32]⟩ ++ ⟨T.toArray⟩ ++ ⟨#[10]⟩ : ByteArray).data.toList = 32 :: (T ++ [10]) := by simp
  have HR2 := back_whole hok2
  rw [hT24] at HR2
  have HWH := Lib.hid (fun W hm => Whole_in (⟨#[32]⟩ ++ ⟨T.toArray⟩ ++ ⟨#[10]⟩ : ByteArray) hs2 m W hm)
  rw [hl2, whole_of HR2] at HWH
  have HOB := Lib.hid (fun W hm => Object_zero (⟨T.toArray⟩ ++ ⟨#[32]⟩ ++ rest : ByteArray) hs1 m W hm)
  have HL1 := Lib.hid hl1
  rw [hl1] at HOB
  have HR1 := back_top hok2 (by simpa using hk2) 32 rest.data.toList sep32
  rw [hT24] at HR1
  rw [HR1] at HOB
  clear HR1
  clear hT24 hok2 hs1 hs2 hl1 hl2 HR2
  have q1 : T.length + 1 ≤ 9223372036854775807 := by omega
  have q2 : T.length + 1 + rest.size ≤ 9223372036854775807 := by omega
  have q3 : 1 + T.length ≤ 9223372036854775807 := by omega
  have q4 : 1 + T.length + 1 ≤ 9223372036854775807 := by omega
  clear t1 t2 t4 t5
  go_wp2_with fail
  refine (HOB.out _ (HM.out.below (by repeat' (first | (with_reducible exact Below.refl _ _) | (with_reducible refine Below.drew ?_) | (with_reducible refine belowDrewN ?_ _) | (with_reducible refine belowIter ?_ ?_ _ _) | (with_reducible refine Below.setCell ?_ ?_ _) | (with_reducible refine Below.alloc ?_ ?_ _) | (with_reducible refine Below.trans ?_ (Below.mono hb4 ?_)) | (with_reducible refine Below.trans ?_ (Below.mono hbw5 ?_)) | (with_reducible refine Below.trans ?_ (Below.mono hb2 ?_)) | (with_reducible refine Below.trans ?_ (Below.mono hb1 ?_)) | (with_reducible refine Below.trans ?_ (Below.mono hbr ?_)) | (with_reducible refine Below.trans ?_ (Below.mono hb ?_)) | (simp; done) | (simp; omega) | omega)))).mono ?_
  rintro e w6 ⟨p3, n3, d3, p4, n4, d4, z, rfl, hz0, hz1, O1, hb1⟩
  have hz : z = T.length := drop_len HL1.out hz1 hz0
  subst hz
  have hbw5 : Below w0.heap.size w0 w6 := (by repeat' (first | (with_reducible exact Below.refl _ _) | (with_reducible refine Below.drew ?_) | (with_reducible refine belowDrewN ?_ _) | (with_reducible refine belowIter ?_ ?_ _ _) | (with_reducible refine Below.setCell ?_ ?_ _) | (with_reducible refine Below.alloc ?_ ?_ _) | (with_reducible refine Below.trans ?_ (Below.mono hb4 ?_)) | (with_reducible refine Below.trans ?_ (Below.mono hbw5 ?_)) | (with_reducible refine Below.trans ?_ (Below.mono hb2 ?_)) | (with_reducible refine Below.trans ?_ (Below.mono hb1 ?_)) | (with_reducible refine Below.trans ?_ (Below.mono hbr ?_)) | (with_reducible refine Below.trans ?_ (Below.mono hb ?_)) | (simp; done) | (simp; omega) | omega))
  have hz5 := hbw5.size
  clear hz0 hz1
  go_wp2_with fail
  refine (HWH.out _ (HM.out.below (by repeat' (first | (with_reducible exact Below.refl _ _) | (with_reducible refine Below.drew ?_) | (with_reducible refine belowDrewN ?_ _) | (with_reducible refine belowIter ?_ ?_ _ _) | (with_reducible refine Below.setCell ?_ ?_ _) | (with_reducible refine Below.alloc ?_ ?_ _) | (with_reducible refine Below.trans ?_ (Below.mono hb4 ?_)) | (with_reducible refine Below.trans ?_ (Below.mono hbw5 ?_)) | (with_reducible refine Below.trans ?_ (Below.mono hb2 ?_)) | (with_reducible refine Below.trans ?_ (Below.mono hb1 ?_)) | (with_reducible refine Below.trans ?_ (Below.mono hbr ?_)) | (with_reducible refine Below.trans ?_ (Below.mono hb ?_)) | (simp; done) | (simp; omega) | omega)))).mono ?_
  rintro e w7 ⟨q5, n5, d5, q6, n6, d6, rfl, O2, hb2⟩
  have hz6 := hz5
  have hb67 := belowStep (Below.refl w6.heap.size w6) (Nat.le_refl _) hb2
  have hbw5 : Below w0.heap.size w0 w7 := hbw5.trans (hb67.mono hz6)
  have HA0 := (hb2.block w6.heap.size (by simp)).trans (heap_new_at w6 _ _ rfl)
  clear y0 y1 y2 y3 y4 y5 yf hb1 hb2 HWH HOB hz5
  have hz5 := hbw5.size
  obtain ⟨y0, y1, y2, y3, y4, y5, yf⟩ := six_of ((hbw5.block _ L0).trans HG0.out)
  go_upto_region 8 with fail
  obtain ⟨w8, hw8⟩ : ∃ w8, w7.alloc (.cells #[.int .i64 o.kind, .int .i64 o.n, .int .i64 o.g, .string ⟨o.s.toArray⟩, .slice q5 n5 d5, .slice q6 n6 d6] 26) = w8 := ⟨_, rfl⟩
  go_must (rw [hw8])
  have hb8 : Below w7.heap.size w7 w8 := by rw [← hw8]; exact (by repeat' (first | (with_reducible exact Below.refl _ _) | (with_reducible refine Below.setCell ?_ ?_ _) | (with_reducible refine Below.alloc ?_ ?_ _) | (show _ ≤ _; simp; done) | (show _ ≤ _; simp; omega) | omega))
  have HB : w8.heap[w7.heap.size]? = some (.cells #[.int .i64 o.kind, .int .i64 o.n, .int .i64 o.g, .string ⟨o.s.toArray⟩, .slice q5 n5 d5, .slice q6 n6 d6] 26 (0, 0)) := by rw [← hw8]; exact heap_new_at _ _ _ rfl
  clear hw8
  have hz67 := hb67.size
  have hz78 := hb8.size
  have h68 := hb67.trans (hb8.mono hz67)
  have h08 := hbw5.trans (hb8.mono hz5)
  have HA := (hb8.block w6.heap.size (by have := lt_of_blk HA0; exact this)).trans HA0
  have HBX := (h08.block w.heap.size L0).trans HG0.out
  have hbw8 := hb.trans (h08.mono hb.size)
  have s0 := hbw8.size
  have HYY := Lib.hid (fun (W : World) (hW : Below w8.heap.size w8 W) => same_in (fun b => b < w8.heap.size) (25 + d) W _ _ o
    (ObjAt.grow (S' := fun b => b < w8.heap.size) (O2.upN d) (fun b h1 h2 => ⟨by omega, (hb8.trans (hW.mono (by omega))).block b h2⟩))
    (ObjAt.grow (S' := fun b => b < w8.heap.size) (show ObjAt (fun b => b < w.heap.size) (25 + d) w _ o by rw [Nat.add_comm]; exact HO.out.1.upN 25) (fun b h1 h2 => ⟨by omega, (hbw8.trans (hW.mono (by omega))).block b h2⟩)) (by rw [Nat.add_comm]; exact small_upN HO.out.2 25) (fun b h => Nat.lt_of_lt_of_le h hW.size))
  unfold objCells at HYY
  have HX := Lib.hid (fun (W : World) (hW : Below w8.heap.size w8 W) => same_in (fun b => b < w8.heap.size) (25 + d) W _ _ o
    (ObjAt.grow (S' := fun b => b < w8.heap.size) (O1.upN d) (fun b h1 h2 => ⟨by omega, (h68.trans (hW.mono (by omega))).block b h2⟩))
    (ObjAt.grow (S' := fun b => b < w8.heap.size) (show ObjAt (fun b => b < w.heap.size) (25 + d) w _ o by rw [Nat.add_comm]; exact HO.out.1.upN 25) (fun b h1 h2 => ⟨by omega, (hbw8.trans (hW.mono (by omega))).block b h2⟩)) (by rw [Nat.add_comm]; exact small_upN HO.out.2 25) (fun b h => Nat.lt_of_lt_of_le h hW.size))
  unfold objCells at HX
  have m8 := HM.out.below hbw8
  clear O1 O2 hb67 hb8 h68 h08 hbw5 y0 y1 y2 y3 y4 y5 yf HA0 HO HTE HCK HL1
  obtain ⟨a0, a1, a2, a3, a4, a5, af⟩ := six_of HA
  obtain ⟨b0, b1, b2, b3, b4, b5, bf⟩ := six_of HBX
  have lB := lt_of_blk HB
  have lX := lt_of_blk HBX
  go_wp2_with fail
  refine (HX.out _ (Below.refl _ _)).mono ?_
  rintro e v1 ⟨rfl, hv1⟩
  have HB1 := (hv1.block _ lB).trans HB
  have HX1 := (hv1.block _ lX).trans HBX
  clear HA HB HBX a0 a1 a2 a3 a4 a5 af b0 b1 b2 b3 b4 b5 bf HX
  obtain ⟨a0, a1, a2, a3, a4, a5, af⟩ := six_of HB1
  obtain ⟨b0, b1, b2, b3, b4, b5, bf⟩ := six_of HX1
  go_wp2_with fail
  refine (HYY.out _ hv1).mono ?_
  rintro e v2 ⟨rfl, hv2⟩
  have u1 := hv1.size
  have hv12 := hv1.trans (hv2.mono u1)
  have m9 := m8.below hv12
  clear HB1 HX1 a0 a1 a2 a3 a4 a5 af b0 b1 b2 b3 b4 b5 bf HYY hv1 hv2
  go_wp2_with fail
  refine (HL.out _ m9).mono ?_
  rintro e v3 ⟨rfl, hv3⟩
  have hbw3 := hbw8.trans (hv12.mono s0)
  have u2 := hv12.size
  go_wp2
  go_ret
  exact ⟨rfl, hbw3.trans (hv3.mono (by omega))⟩
set_option maxRecDepth 100000 in
set_option maxHeartbeats 4000000 in
theorem back_int1 (d : Nat) (o : Ob) (cs : List Value) (rest : ByteArray) (m : Int) (w : World) (hm : MaxW w m) (hO : ObjAt (fun b => b < w.heap.size) d w cs o) (hbk : ∀ e, bulkO e o ≤ 1048576) (hk2 : (o.kind == 2) = true) (hr : ∀ (T : L), textO 24 o = T → readS (T ++ 32 :: rest.data.toList) = .good (o, 32 :: rest.data.toList)) :
    Calls Tryz.prog 4 #[.agg cs.toArray, .string rest] w fun e w' => e = .returned (.bool true) ∧ Below w.heap.size w w' := by
  have HRR := Lib.hid hr
  clear hr
  have hsm := small_of (by decide) d cs o hO hbk
  obtain ⟨p1, c1, p2, c2, rfl⟩ := hO.form2
  have HZ := Lib.hid (fun W (hW : Below w.heap.size w W) => size_in (fun b => b < w.heap.size) d W _ o (hO.kept (fun b h => hW.block b h) d) hsm (fun b h => Nat.lt_of_lt_of_le h hW.size))
  have HY := Lib.hid (fun W (hW : Below w.heap.size w W) => bytes_in (fun b => b < w.heap.size) d W _ o (hO.kept (fun b h => hW.block b h) d) hsm (fun b h => Nat.lt_of_lt_of_le h hW.size))
  have HC := Lib.hid (fun W (hW : Below w.heap.size w W) => Check_in (fun b => b < w.heap.size) d W _ o (hO.kept (fun b h => hW.block b h) d) hsm (fun b h => Nat.lt_of_lt_of_le h hW.size) (check_in _ 24 (by decide)))
  have HT := Lib.hid (fun (hok : okO 24 o) W (hW : Below w.heap.size w W) => rtext_in (fun b => b < w.heap.size) 24 d W _ o (hO.kept (fun b h => hW.block b h) d) hok (by have := text_le 24 o hok; have := hbk 24; omega) (fun b h => Nat.lt_of_lt_of_le h hW.size))
  have HL := Lib.hid (fun W hm => lives_in m W hm)
  have HM := Lib.hid hm
  have HO := Lib.hid (And.intro hO hsm)
  unfold objCells at HZ HY HC HT
  obtain ⟨ck, hck⟩ : ∃ ck, checkB 24 o = ck := ⟨_, rfl⟩
  rw [hck] at HC
  have HCK := Lib.hid hck
  unfold objCells
  clear hck hO hsm hbk hm
  go_enter Tryz.func4, Tryz.ntmps4
  go_upto_region 1 with fail
  have G0 := heap_new_at w (.cells #[.int .i64 o.kind, .int .i64 o.n, .int .i64 o.g, .string ⟨o.s.toArray⟩, .slice p1 o.keys.length c1, .slice p2 o.kids.length c2] 26 (0, 0)) _ rfl
  have hb : Below w.heap.size w (w.alloc (.cells #[.int .i64 o.kind, .int .i64 o.n, .int .i64 o.g, .string ⟨o.s.toArray⟩, .slice p1 o.keys.length c1, .slice p2 o.kids.length c2] 26)) := (by repeat' (first | (with_reducible exact Below.refl _ _) | (with_reducible refine Below.drew ?_) | (with_reducible refine belowDrewN ?_ _) | (with_reducible refine belowIter ?_ ?_ _ _) | (with_reducible refine Below.setCell ?_ ?_ _) | (with_reducible refine Below.alloc ?_ ?_ _) | (with_reducible refine Below.trans ?_ (Below.mono hb4 ?_)) | (with_reducible refine Below.trans ?_ (Below.mono hb3 ?_)) | (with_reducible refine Below.trans ?_ (Below.mono hb2 ?_)) | (with_reducible refine Below.trans ?_ (Below.mono hb1 ?_)) | (with_reducible refine Below.trans ?_ (Below.mono hbr ?_)) | (with_reducible refine Below.trans ?_ (Below.mono hb ?_)) | (simp; done) | (simp; omega) | omega))
  have L0 : w.heap.size < (w.alloc (.cells #[.int .i64 o.kind, .int .i64 o.n, .int .i64 o.g, .string ⟨o.s.toArray⟩, .slice p1 o.keys.length c1, .slice p2 o.kids.length c2] 26)).heap.size := by simp
  obtain ⟨w0, hw0⟩ : ∃ w0, w.alloc (.cells #[.int .i64 o.kind, .int .i64 o.n, .int .i64 o.g, .string ⟨o.s.toArray⟩, .slice p1 o.keys.length c1, .slice p2 o.kids.length c2] 26) = w0 := ⟨_, rfl⟩
  rw [hw0] at G0 hb L0 ⊢
  have HG0 := Lib.hid G0
  clear hw0 G0
  obtain ⟨y0, y1, y2, y3, y4, y5, yf⟩ := six_of HG0.out
  go_wp2_with fail
  refine (HZ.out _ (by repeat' (first | (with_reducible exact Below.refl _ _) | (with_reducible refine Below.drew ?_) | (with_reducible refine belowDrewN ?_ _) | (with_reducible refine belowIter ?_ ?_ _ _) | (with_reducible refine Below.setCell ?_ ?_ _) | (with_reducible refine Below.alloc ?_ ?_ _) | (with_reducible refine Below.trans ?_ (Below.mono hb4 ?_)) | (with_reducible refine Below.trans ?_ (Below.mono hb3 ?_)) | (with_reducible refine Below.trans ?_ (Below.mono hb2 ?_)) | (with_reducible refine Below.trans ?_ (Below.mono hb1 ?_)) | (with_reducible refine Below.trans ?_ (Below.mono hbr ?_)) | (with_reducible refine Below.trans ?_ (Below.mono hb ?_)) | (simp; done) | (simp; omega) | omega))).mono ?_
  rintro e w1 ⟨⟨z1, rfl⟩, hb1⟩
  have hbw5 : Below w0.heap.size w0 w1 := (by repeat' (first | (with_reducible exact Below.refl _ _) | (with_reducible refine Below.drew ?_) | (with_reducible refine belowDrewN ?_ _) | (with_reducible refine belowIter ?_ ?_ _ _) | (with_reducible refine Below.setCell ?_ ?_ _) | (with_reducible refine Below.alloc ?_ ?_ _) | (with_reducible refine Below.trans ?_ (Below.mono hb4 ?_)) | (with_reducible refine Below.trans ?_ (Below.mono hb3 ?_)) | (with_reducible refine Below.trans ?_ (Below.mono hb2 ?_)) | (with_reducible refine Below.trans ?_ (Below.mono hb1 ?_)) | (with_reducible refine Below.trans ?_ (Below.mono hbr ?_)) | (with_reducible refine Below.trans ?_ (Below.mono hb ?_)) | (simp; done) | (simp; omega) | omega))
  clear y0 y1 y2 y3 y4 y5 yf hb1 HZ
  have hz5 := hbw5.size
  obtain ⟨y0, y1, y2, y3, y4, y5, yf⟩ := six_of ((hbw5.block _ L0).trans HG0.out)
  by_cases t1 : 400 < z1
  · skip
    go_wp2_with fail
    refine (HL.out _ (HM.out.below (by repeat' (first | (with_reducible exact Below.refl _ _) | (with_reducible refine Below.drew ?_) | (with_reducible refine belowDrewN ?_ _) | (with_reducible refine belowIter ?_ ?_ _ _) | (with_reducible refine Below.setCell ?_ ?_ _) | (with_reducible refine Below.alloc ?_ ?_ _) | (with_reducible refine Below.trans ?_ (Below.mono hb4 ?_)) | (with_reducible refine Below.trans ?_ (Below.mono hbw5 ?_)) | (with_reducible refine Below.trans ?_ (Below.mono hb2 ?_)) | (with_reducible refine Below.trans ?_ (Below.mono hb1 ?_)) | (with_reducible refine Below.trans ?_ (Below.mono hbr ?_)) | (with_reducible refine Below.trans ?_ (Below.mono hb ?_)) | (simp; done) | (simp; omega) | omega)))).mono ?_
    rintro e w9 ⟨rfl, hb4⟩
    go_wp2
    go_ret
    exact ⟨rfl, (by repeat' (first | (with_reducible exact Below.refl _ _) | (with_reducible refine Below.drew ?_) | (with_reducible refine belowDrewN ?_ _) | (with_reducible refine belowIter ?_ ?_ _ _) | (with_reducible refine Below.setCell ?_ ?_ _) | (with_reducible refine Below.alloc ?_ ?_ _) | (with_reducible refine Below.trans ?_ (Below.mono hb4 ?_)) | (with_reducible refine Below.trans ?_ (Below.mono hbw5 ?_)) | (with_reducible refine Below.trans ?_ (Below.mono hb2 ?_)) | (with_reducible refine Below.trans ?_ (Below.mono hb1 ?_)) | (with_reducible refine Below.trans ?_ (Below.mono hbr ?_)) | (with_reducible refine Below.trans ?_ (Below.mono hb ?_)) | (simp; done) | (simp; omega) | omega))⟩
  go_wp2_with fail
  refine (HY.out _ (by repeat' (first | (with_reducible exact Below.refl _ _) | (with_reducible refine Below.drew ?_) | (with_reducible refine belowDrewN ?_ _) | (with_reducible refine belowIter ?_ ?_ _ _) | (with_reducible refine Below.setCell ?_ ?_ _) | (with_reducible refine Below.alloc ?_ ?_ _) | (with_reducible refine Below.trans ?_ (Below.mono hb4 ?_)) | (with_reducible refine Below.trans ?_ (Below.mono hbw5 ?_)) | (with_reducible refine Below.trans ?_ (Below.mono hb2 ?_)) | (with_reducible refine Below.trans ?_ (Below.mono hb1 ?_)) | (with_reducible refine Below.trans ?_ (Below.mono hbr ?_)) | (with_reducible refine Below.trans ?_ (Below.mono hb ?_)) | (simp; done) | (simp; omega) | omega))).mono ?_
  rintro e w1 ⟨⟨z2, rfl⟩, hb1⟩
  have hbw5 : Below w0.heap.size w0 w1 := (by repeat' (first | (with_reducible exact Below.refl _ _) | (with_reducible refine Below.drew ?_) | (with_reducible refine belowDrewN ?_ _) | (with_reducible refine belowIter ?_ ?_ _ _) | (with_reducible refine Below.setCell ?_ ?_ _) | (with_reducible refine Below.alloc ?_ ?_ _) | (with_reducible refine Below.trans ?_ (Below.mono hb4 ?_)) | (with_reducible refine Below.trans ?_ (Below.mono hbw5 ?_)) | (with_reducible refine Below.trans ?_ (Below.mono hb2 ?_)) | (with_reducible refine Below.trans ?_ (Below.mono hb1 ?_)) | (with_reducible refine Below.trans ?_ (Below.mono hbr ?_)) | (with_reducible refine Below.trans ?_ (Below.mono hb ?_)) | (simp; done) | (simp; omega) | omega))
  clear y0 y1 y2 y3 y4 y5 yf hb1 HY
  have hz5 := hbw5.size
  obtain ⟨y0, y1, y2, y3, y4, y5, yf⟩ := six_of ((hbw5.block _ L0).trans HG0.out)
  by_cases t2 : 3000 < z2
  · skip
    go_wp2_with fail
    refine (HL.out _ (HM.out.below (by repeat' (first | (with_reducible exact Below.refl _ _) | (with_reducible refine Below.drew ?_) | (with_reducible refine belowDrewN ?_ _) | (with_reducible refine belowIter ?_ ?_ _ _) | (with_reducible refine Below.setCell ?_ ?_ _) | (with_reducible refine Below.alloc ?_ ?_ _) | (with_reducible refine Below.trans ?_ (Below.mono hb4 ?_)) | (with_reducible refine Below.trans ?_ (Below.mono hbw5 ?_)) | (with_reducible refine Below.trans ?_ (Below.mono hb2 ?_)) | (with_reducible refine Below.trans ?_ (Below.mono hb1 ?_)) | (with_reducible refine Below.trans ?_ (Below.mono hbr ?_)) | (with_reducible refine Below.trans ?_ (Below.mono hb ?_)) | (simp; done) | (simp; omega) | omega)))).mono ?_
    rintro e w9 ⟨rfl, hb4⟩
    go_wp2
    go_ret
    exact ⟨rfl, (by repeat' (first | (with_reducible exact Below.refl _ _) | (with_reducible refine Below.drew ?_) | (with_reducible refine belowDrewN ?_ _) | (with_reducible refine belowIter ?_ ?_ _ _) | (with_reducible refine Below.setCell ?_ ?_ _) | (with_reducible refine Below.alloc ?_ ?_ _) | (with_reducible refine Below.trans ?_ (Below.mono hb4 ?_)) | (with_reducible refine Below.trans ?_ (Below.mono hbw5 ?_)) | (with_reducible refine Below.trans ?_ (Below.mono hb2 ?_)) | (with_reducible refine Below.trans ?_ (Below.mono hb1 ?_)) | (with_reducible refine Below.trans ?_ (Below.mono hbr ?_)) | (with_reducible refine Below.trans ?_ (Below.mono hb ?_)) | (simp; done) | (simp; omega) | omega))⟩
  by_cases t3 : 1000 < rest.size
  · skip
    go_wp2_with fail
    refine (HL.out _ (HM.out.below (by repeat' (first | (with_reducible exact Below.refl _ _) | (with_reducible refine Below.drew ?_) | (with_reducible refine belowDrewN ?_ _) | (with_reducible refine belowIter ?_ ?_ _ _) | (with_reducible refine Below.setCell ?_ ?_ _) | (with_reducible refine Below.alloc ?_ ?_ _) | (with_reducible refine Below.trans ?_ (Below.mono hb4 ?_)) | (with_reducible refine Below.trans ?_ (Below.mono hbw5 ?_)) | (with_reducible refine Below.trans ?_ (Below.mono hb2 ?_)) | (with_reducible refine Below.trans ?_ (Below.mono hb1 ?_)) | (with_reducible refine Below.trans ?_ (Below.mono hbr ?_)) | (with_reducible refine Below.trans ?_ (Below.mono hb ?_)) | (simp; done) | (simp; omega) | omega)))).mono ?_
    rintro e w9 ⟨rfl, hb4⟩
    go_wp2
    go_ret
    exact ⟨rfl, (by repeat' (first | (with_reducible exact Below.refl _ _) | (with_reducible refine Below.drew ?_) | (with_reducible refine belowDrewN ?_ _) | (with_reducible refine belowIter ?_ ?_ _ _) | (with_reducible refine Below.setCell ?_ ?_ _) | (with_reducible refine Below.alloc ?_ ?_ _) | (with_reducible refine Below.trans ?_ (Below.mono hb4 ?_)) | (with_reducible refine Below.trans ?_ (Below.mono hbw5 ?_)) | (with_reducible refine Below.trans ?_ (Below.mono hb2 ?_)) | (with_reducible refine Below.trans ?_ (Below.mono hb1 ?_)) | (with_reducible refine Below.trans ?_ (Below.mono hbr ?_)) | (with_reducible refine Below.trans ?_ (Below.mono hb ?_)) | (simp; done) | (simp; omega) | omega))⟩
  go_wp2_with fail
  refine (HC.out _ (by repeat' (first | (with_reducible exact Below.refl _ _) | (with_reducible refine Below.drew ?_) | (with_reducible refine belowDrewN ?_ _) | (with_reducible refine belowIter ?_ ?_ _ _) | (with_reducible refine Below.setCell ?_ ?_ _) | (with_reducible refine Below.alloc ?_ ?_ _) | (with_reducible refine Below.trans ?_ (Below.mono hb4 ?_)) | (with_reducible refine Below.trans ?_ (Below.mono hbw5 ?_)) | (with_reducible refine Below.trans ?_ (Below.mono hb2 ?_)) | (with_reducible refine Below.trans ?_ (Below.mono hb1 ?_)) | (with_reducible refine Below.trans ?_ (Below.mono hbr ?_)) | (with_reducible refine Below.trans ?_ (Below.mono hb ?_)) | (simp; done) | (simp; omega) | omega))).mono ?_
  rintro e w1 ⟨rfl, hb1⟩
  have hbw5 : Below w0.heap.size w0 w1 := (by repeat' (first | (with_reducible exact Below.refl _ _) | (with_reducible refine Below.drew ?_) | (with_reducible refine belowDrewN ?_ _) | (with_reducible refine belowIter ?_ ?_ _ _) | (with_reducible refine Below.setCell ?_ ?_ _) | (with_reducible refine Below.alloc ?_ ?_ _) | (with_reducible refine Below.trans ?_ (Below.mono hb4 ?_)) | (with_reducible refine Below.trans ?_ (Below.mono hbw5 ?_)) | (with_reducible refine Below.trans ?_ (Below.mono hb2 ?_)) | (with_reducible refine Below.trans ?_ (Below.mono hb1 ?_)) | (with_reducible refine Below.trans ?_ (Below.mono hbr ?_)) | (with_reducible refine Below.trans ?_ (Below.mono hb ?_)) | (simp; done) | (simp; omega) | omega))
  clear y0 y1 y2 y3 y4 y5 yf hb1 HC
  have hz5 := hbw5.size
  obtain ⟨y0, y1, y2, y3, y4, y5, yf⟩ := six_of ((hbw5.block _ L0).trans HG0.out)
  cases t4 : (ck != 0)
  case true =>
    go_wp2_with fail
    refine (HL.out _ (HM.out.below (by repeat' (first | (with_reducible exact Below.refl _ _) | (with_reducible refine Below.drew ?_) | (with_reducible refine belowDrewN ?_ _) | (with_reducible refine belowIter ?_ ?_ _ _) | (with_reducible refine Below.setCell ?_ ?_ _) | (with_reducible refine Below.alloc ?_ ?_ _) | (with_reducible refine Below.trans ?_ (Below.mono hb4 ?_)) | (with_reducible refine Below.trans ?_ (Below.mono hbw5 ?_)) | (with_reducible refine Below.trans ?_ (Below.mono hb2 ?_)) | (with_reducible refine Below.trans ?_ (Below.mono hb1 ?_)) | (with_reducible refine Below.trans ?_ (Below.mono hbr ?_)) | (with_reducible refine Below.trans ?_ (Below.mono hb ?_)) | (simp; done) | (simp; omega) | omega)))).mono ?_
    rintro e w9 ⟨rfl, hb4⟩
    go_wp2
    go_ret
    exact ⟨rfl, (by repeat' (first | (with_reducible exact Below.refl _ _) | (with_reducible refine Below.drew ?_) | (with_reducible refine belowDrewN ?_ _) | (with_reducible refine belowIter ?_ ?_ _ _) | (with_reducible refine Below.setCell ?_ ?_ _) | (with_reducible refine Below.alloc ?_ ?_ _) | (with_reducible refine Below.trans ?_ (Below.mono hb4 ?_)) | (with_reducible refine Below.trans ?_ (Below.mono hbw5 ?_)) | (with_reducible refine Below.trans ?_ (Below.mono hb2 ?_)) | (with_reducible refine Below.trans ?_ (Below.mono hb1 ?_)) | (with_reducible refine Below.trans ?_ (Below.mono hbr ?_)) | (with_reducible refine Below.trans ?_ (Below.mono hb ?_)) | (simp; done) | (simp; omega) | omega))⟩
  cases t5 : (o.kind == 9)
  case true =>
    go_wp2_with fail
    refine (HL.out _ (HM.out.below (by repeat' (first | (with_reducible exact Below.refl _ _) | (with_reducible refine Below.drew ?_) | (with_reducible refine belowDrewN ?_ _) | (with_reducible refine belowIter ?_ ?_ _ _) | (with_reducible refine Below.setCell ?_ ?_ _) | (with_reducible refine Below.alloc ?_ ?_ _) | (with_reducible refine Below.trans ?_ (Below.mono hb4 ?_)) | (with_reducible refine Below.trans ?_ (Below.mono hbw5 ?_)) | (with_reducible refine Below.trans ?_ (Below.mono hb2 ?_)) | (with_reducible refine Below.trans ?_ (Below.mono hb1 ?_)) | (with_reducible refine Below.trans ?_ (Below.mono hbr ?_)) | (with_reducible refine Below.trans ?_ (Below.mono hb ?_)) | (simp; done) | (simp; omega) | omega)))).mono ?_
    rintro e w9 ⟨rfl, hb4⟩
    go_wp2
    go_ret
    exact ⟨rfl, (by repeat' (first | (with_reducible exact Below.refl _ _) | (with_reducible refine Below.drew ?_) | (with_reducible refine belowDrewN ?_ _) | (with_reducible refine belowIter ?_ ?_ _ _) | (with_reducible refine Below.setCell ?_ ?_ _) | (with_reducible refine Below.alloc ?_ ?_ _) | (with_reducible refine Below.trans ?_ (Below.mono hb4 ?_)) | (with_reducible refine Below.trans ?_ (Below.mono hbw5 ?_)) | (with_reducible refine Below.trans ?_ (Below.mono hb2 ?_)) | (with_reducible refine Below.trans ?_ (Below.mono hb1 ?_)) | (with_reducible refine Below.trans ?_ (Below.mono hbr ?_)) | (with_reducible refine Below.trans ?_ (Below.mono hb ?_)) | (simp; done) | (simp; omega) | omega))⟩
  have hok : okO 24 o := check_okO 24 o (by omega) (fun _ => by simpa using t5) (by rw [HCK.out]; simpa using t4)
  have HT2 := Lib.hid (HT.out hok)
  obtain ⟨T, hT⟩ : ∃ T, textO 24 o = T := ⟨_, rfl⟩
  rw [hT] at HT2
  have HTE := Lib.hid (And.intro hT hok)
  clear HT hT hok
  go_wp2_with fail
  refine (HT2.out _ (by repeat' (first | (with_reducible exact Below.refl _ _) | (with_reducible refine Below.drew ?_) | (with_reducible refine belowDrewN ?_ _) | (with_reducible refine belowIter ?_ ?_ _ _) | (with_reducible refine Below.setCell ?_ ?_ _) | (with_reducible refine Below.alloc ?_ ?_ _) | (with_reducible refine Below.trans ?_ (Below.mono hb4 ?_)) | (with_reducible refine Below.trans ?_ (Below.mono hbw5 ?_)) | (with_reducible refine Below.trans ?_ (Below.mono hb2 ?_)) | (with_reducible refine Below.trans ?_ (Below.mono hb1 ?_)) | (with_reducible refine Below.trans ?_ (Below.mono hbr ?_)) | (with_reducible refine Below.trans ?_ (Below.mono hb ?_)) | (simp; done) | (simp; omega) | omega))).mono ?_
  rintro e w1 ⟨rfl, hb1⟩
  have hbw5 : Below w0.heap.size w0 w1 := (by repeat' (first | (with_reducible exact Below.refl _ _) | (with_reducible refine Below.drew ?_) | (with_reducible refine belowDrewN ?_ _) | (with_reducible refine belowIter ?_ ?_ _ _) | (with_reducible refine Below.setCell ?_ ?_ _) | (with_reducible refine Below.alloc ?_ ?_ _) | (with_reducible refine Below.trans ?_ (Below.mono hb4 ?_)) | (with_reducible refine Below.trans ?_ (Below.mono hbw5 ?_)) | (with_reducible refine Below.trans ?_ (Below.mono hb2 ?_)) | (with_reducible refine Below.trans ?_ (Below.mono hb1 ?_)) | (with_reducible refine Below.trans ?_ (Below.mono hbr ?_)) | (with_reducible refine Below.trans ?_ (Below.mono hb ?_)) | (simp; done) | (simp; omega) | omega))
  clear y0 y1 y2 y3 y4 y5 yf hb1 HT2
  have hz5 := hbw5.size
  obtain ⟨y0, y1, y2, y3, y4, y5, yf⟩ := six_of ((hbw5.block _ L0).trans HG0.out)
  by_cases t6 : 100000 < T.length
  · skip
    go_wp2_with fail
    refine (HL.out _ (HM.out.below (by repeat' (first | (with_reducible exact Below.refl _ _) | (with_reducible refine Below.drew ?_) | (with_reducible refine belowDrewN ?_ _) | (with_reducible refine belowIter ?_ ?_ _ _) | (with_reducible refine Below.setCell ?_ ?_ _) | (with_reducible refine Below.alloc ?_ ?_ _) | (with_reducible refine Below.trans ?_ (Below.mono hb4 ?_)) | (with_reducible refine Below.trans ?_ (Below.mono hbw5 ?_)) | (with_reducible refine Below.trans ?_ (Below.mono hb2 ?_)) | (with_reducible refine Below.trans ?_ (Below.mono hb1 ?_)) | (with_reducible refine Below.trans ?_ (Below.mono hbr ?_)) | (with_reducible refine Below.trans ?_ (Below.mono hb ?_)) | (simp; done) | (simp; omega) | omega)))).mono ?_
    rintro e w9 ⟨rfl, hb4⟩
    go_wp2
    go_ret
    exact ⟨rfl, (by repeat' (first | (with_reducible exact Below.refl _ _) | (with_reducible refine Below.drew ?_) | (with_reducible refine belowDrewN ?_ _) | (with_reducible refine belowIter ?_ ?_ _ _) | (with_reducible refine Below.setCell ?_ ?_ _) | (with_reducible refine Below.alloc ?_ ?_ _) | (with_reducible refine Below.trans ?_ (Below.mono hb4 ?_)) | (with_reducible refine Below.trans ?_ (Below.mono hbw5 ?_)) | (with_reducible refine Below.trans ?_ (Below.mono hb2 ?_)) | (with_reducible refine Below.trans ?_ (Below.mono hb1 ?_)) | (with_reducible refine Below.trans ?_ (Below.mono hbr ?_)) | (with_reducible refine Below.trans ?_ (Below.mono hb ?_)) | (simp; done) | (simp; omega) | omega))⟩
  have hT24 := HTE.out.1
  have hok2 := HTE.out.2
  have e1 : (⟨T.toArray⟩ : ByteArray).size = T.length := rfl
  have e2 : (⟨#[32]⟩ : ByteArray).size = 1 := rfl
  have e3 : (⟨#[10]⟩ : ByteArray).size = 1 := rfl
  have hs1 : (⟨T.toArray⟩ ++ ⟨#[32]⟩ ++ rest : ByteArray).size ≤ 140737488355327 := by simp only [ByteArray.size_append]; omega
  have hs2 : (⟨#[32]⟩ ++ ⟨T.toArray⟩ ++ ⟨#[10]⟩ : ByteArray).size ≤ 140737488355327 := by simp only [ByteArray.size_append]; omega
  clear e1 e2 e3
  have hl1 : (⟨T.toArray⟩ ++ ⟨#[32]⟩ ++ rest : ByteArray).data.toList = T ++ 32 :: rest.data.toList := by simp
  have hl2 : (⟨#[32]⟩ ++ ⟨T.toArray⟩ ++ ⟨#[10]⟩ : ByteArray).data.toList = 32 :: (T ++ [10]) := by simp
  have HR2 := back_whole hok2
  rw [hT24] at HR2
  have HWH := Lib.hid (fun W hm => Whole_in (⟨#[32]⟩ ++ ⟨T.toArray⟩ ++ ⟨#[10]⟩ : ByteArray) hs2 m W hm)
  rw [hl2, whole_of HR2] at HWH
  have HOB := Lib.hid (fun W hm => Object_zero (⟨T.toArray⟩ ++ ⟨#[32]⟩ ++ rest : ByteArray) hs1 m W hm)
  have HL1 := Lib.hid hl1
  rw [hl1] at HOB
  have HR1 := HRR.out T hT24
  rw [HR1] at HOB
  have hk8 : (o.kind == 8) = false := by
    have : o.kind = 2 := by simpa using hk2
    rw [this]; rfl
  clear HR1 HRR
  clear hT24 hok2 hs1 hs2 hl1 hl2 HR2
  have q1 : T.length + 1 ≤ 9223372036854775807 := by omega
  have q2 : T.length + 1 + rest.size ≤ 9223372036854775807 := by omega
  have q3 : 1 + T.length ≤ 9223372036854775807 := by omega
  have q4 : 1 + T.length + 1 ≤ 9223372036854775807 := by omega
  clear t1 t2 t4 t5
  go_wp2_with fail
  refine (HOB.out _ (HM.out.below (by repeat' (first | (with_reducible exact Below.refl _ _) | (with_reducible refine Below.drew ?_) | (with_reducible refine belowDrewN ?_ _) | (with_reducible refine belowIter ?_ ?_ _ _) | (with_reducible refine Below.setCell ?_ ?_ _) | (with_reducible refine Below.alloc ?_ ?_ _) | (with_reducible refine Below.trans ?_ (Below.mono hb4 ?_)) | (with_reducible refine Below.trans ?_ (Below.mono hbw5 ?_)) | (with_reducible refine Below.trans ?_ (Below.mono hb2 ?_)) | (with_reducible refine Below.trans ?_ (Below.mono hb1 ?_)) | (with_reducible refine Below.trans ?_ (Below.mono hbr ?_)) | (with_reducible refine Below.trans ?_ (Below.mono hb ?_)) | (simp; done) | (simp; omega) | omega)))).mono ?_
  rintro e w6 ⟨p3, n3, d3, p4, n4, d4, z, rfl, hz0, hz1, O1, hb1⟩
  have hz : z = T.length := drop_len HL1.out hz1 hz0
  subst hz
  have hbw5 : Below w0.heap.size w0 w6 := (by repeat' (first | (with_reducible exact Below.refl _ _) | (with_reducible refine Below.drew ?_) | (with_reducible refine belowDrewN ?_ _) | (with_reducible refine belowIter ?_ ?_ _ _) | (with_reducible refine Below.setCell ?_ ?_ _) | (with_reducible refine Below.alloc ?_ ?_ _) | (with_reducible refine Below.trans ?_ (Below.mono hb4 ?_)) | (with_reducible refine Below.trans ?_ (Below.mono hbw5 ?_)) | (with_reducible refine Below.trans ?_ (Below.mono hb2 ?_)) | (with_reducible refine Below.trans ?_ (Below.mono hb1 ?_)) | (with_reducible refine Below.trans ?_ (Below.mono hbr ?_)) | (with_reducible refine Below.trans ?_ (Below.mono hb ?_)) | (simp; done) | (simp; omega) | omega))
  have hz5 := hbw5.size
  clear hz0 hz1
  go_wp2_with fail
  refine (HWH.out _ (HM.out.below (by repeat' (first | (with_reducible exact Below.refl _ _) | (with_reducible refine Below.drew ?_) | (with_reducible refine belowDrewN ?_ _) | (with_reducible refine belowIter ?_ ?_ _ _) | (with_reducible refine Below.setCell ?_ ?_ _) | (with_reducible refine Below.alloc ?_ ?_ _) | (with_reducible refine Below.trans ?_ (Below.mono hb4 ?_)) | (with_reducible refine Below.trans ?_ (Below.mono hbw5 ?_)) | (with_reducible refine Below.trans ?_ (Below.mono hb2 ?_)) | (with_reducible refine Below.trans ?_ (Below.mono hb1 ?_)) | (with_reducible refine Below.trans ?_ (Below.mono hbr ?_)) | (with_reducible refine Below.trans ?_ (Below.mono hb ?_)) | (simp; done) | (simp; omega) | omega)))).mono ?_
  rintro e w7 ⟨q5, n5, d5, q6, n6, d6, rfl, O2, hb2⟩
  have hz6 := hz5
  have hb67 := belowStep (Below.refl w6.heap.size w6) (Nat.le_refl _) hb2
  have hbw5 : Below w0.heap.size w0 w7 := hbw5.trans (hb67.mono hz6)
  have HA0 := (hb2.block w6.heap.size (by simp)).trans (heap_new_at w6 _ _ rfl)
  clear y0 y1 y2 y3 y4 y5 yf hb1 hb2 HWH HOB hz5
  have hz5 := hbw5.size
  obtain ⟨y0, y1, y2, y3, y4, y5, yf⟩ := six_of ((hbw5.block _ L0).trans HG0.out)
  go_upto_region 8 with fail
  obtain ⟨w8, hw8⟩ : ∃ w8, w7.alloc (.cells #[.int .i64 o.kind, .int .i64 o.n, .int .i64 o.g, .string ⟨o.s.toArray⟩, .slice q5 n5 d5, .slice q6 n6 d6] 26) = w8 := ⟨_, rfl⟩
  go_must (rw [hw8])
  have hb8 : Below w7.heap.size w7 w8 := by rw [← hw8]; exact (by repeat' (first | (with_reducible exact Below.refl _ _) | (with_reducible refine Below.setCell ?_ ?_ _) | (with_reducible refine Below.alloc ?_ ?_ _) | (show _ ≤ _; simp; done) | (show _ ≤ _; simp; omega) | omega))
  have HB : w8.heap[w7.heap.size]? = some (.cells #[.int .i64 o.kind, .int .i64 o.n, .int .i64 o.g, .string ⟨o.s.toArray⟩, .slice q5 n5 d5, .slice q6 n6 d6] 26 (0, 0)) := by rw [← hw8]; exact heap_new_at _ _ _ rfl
  clear hw8
  have hz67 := hb67.size
  have hz78 := hb8.size
  have h68 := hb67.trans (hb8.mono hz67)
  have h08 := hbw5.trans (hb8.mono hz5)
  have HA := (hb8.block w6.heap.size (by have := lt_of_blk HA0; exact this)).trans HA0
  have HBX := (h08.block w.heap.size L0).trans HG0.out
  have hbw8 := hb.trans (h08.mono hb.size)
  have s0 := hbw8.size
  have HYY := Lib.hid (fun (W : World) (hW : Below w8.heap.size w8 W) => same_in (fun b => b < w8.heap.size) (25 + d) W _ _ o
    (ObjAt.grow (S' := fun b => b < w8.heap.size) (O2.upN d) (fun b h1 h2 => ⟨by omega, (hb8.trans (hW.mono (by omega))).block b h2⟩))
    (ObjAt.grow (S' := fun b => b < w8.heap.size) (show ObjAt (fun b => b < w.heap.size) (25 + d) w _ o by rw [Nat.add_comm]; exact HO.out.1.upN 25) (fun b h1 h2 => ⟨by omega, (hbw8.trans (hW.mono (by omega))).block b h2⟩)) (by rw [Nat.add_comm]; exact small_upN HO.out.2 25) (fun b h => Nat.lt_of_lt_of_le h hW.size))
  unfold objCells at HYY
  have HX := Lib.hid (fun (W : World) (hW : Below w8.heap.size w8 W) => same_in (fun b => b < w8.heap.size) (25 + d) W _ _ o
    (ObjAt.grow (S' := fun b => b < w8.heap.size) (O1.upN d) (fun b h1 h2 => ⟨by omega, (h68.trans (hW.mono (by omega))).block b h2⟩))
    (ObjAt.grow (S' := fun b => b < w8.heap.size) (show ObjAt (fun b => b < w.heap.size) (25 + d) w _ o by rw [Nat.add_comm]; exact HO.out.1.upN 25) (fun b h1 h2 => ⟨by omega, (hbw8.trans (hW.mono (by omega))).block b h2⟩)) (by rw [Nat.add_comm]; exact small_upN HO.out.2 25) (fun b h => Nat.lt_of_lt_of_le h hW.size))
  unfold objCells at HX
  have m8 := HM.out.below hbw8
  clear O1 O2 hb67 hb8 h68 h08 hbw5 y0 y1 y2 y3 y4 y5 yf HA0 HO HTE HCK HL1
  obtain ⟨a0, a1, a2, a3, a4, a5, af⟩ := six_of HA
  obtain ⟨b0, b1, b2, b3, b4, b5, bf⟩ := six_of HBX
  have lB := lt_of_blk HB
  have lX := lt_of_blk HBX
  go_wp2_with fail
  refine (HX.out _ (Below.refl _ _)).mono ?_
  rintro e v1 ⟨rfl, hv1⟩
  have HB1 := (hv1.block _ lB).trans HB
  have HX1 := (hv1.block _ lX).trans HBX
  clear HA HB HBX a0 a1 a2 a3 a4 a5 af b0 b1 b2 b3 b4 b5 bf HX
  obtain ⟨a0, a1, a2, a3, a4, a5, af⟩ := six_of HB1
  obtain ⟨b0, b1, b2, b3, b4, b5, bf⟩ := six_of HX1
  go_wp2_with fail
  refine (HYY.out _ hv1).mono ?_
  rintro e v2 ⟨rfl, hv2⟩
  have u1 := hv1.size
  have hv12 := hv1.trans (hv2.mono u1)
  have m9 := m8.below hv12
  clear HB1 HX1 a0 a1 a2 a3 a4 a5 af b0 b1 b2 b3 b4 b5 bf HYY hv1 hv2
  go_wp2_with fail
  refine (HL.out _ m9).mono ?_
  rintro e v3 ⟨rfl, hv3⟩
  have hbw3 := hbw8.trans (hv12.mono s0)
  have u2 := hv12.size
  go_wp2
  go_ret
  exact ⟨rfl, hbw3.trans (hv3.mono (by omega))⟩
set_option maxRecDepth 100000 in
set_option maxHeartbeats 4000000 in
theorem back_int2 (d : Nat) (o : Ob) (cs : List Value) (rest : ByteArray) (m : Int) (w : World) (hm : MaxW w m) (hO : ObjAt (fun b => b < w.heap.size) d w cs o) (hbk : ∀ e, bulkO e o ≤ 1048576) (hk2 : (o.kind == 2) = true) (gg : Int) (lr : L) (hr : ∀ (T : L), textO 24 o = T → readS (T ++ 32 :: rest.data.toList) = .good (.ref o.n gg, lr)) :
    Calls Tryz.prog 4 #[.agg cs.toArray, .string rest] w fun e w' => e = .returned (.bool true) ∧ Below w.heap.size w w' := by
  have HRR := Lib.hid hr
  clear hr
  have hsm := small_of (by decide) d cs o hO hbk
  obtain ⟨p1, c1, p2, c2, rfl⟩ := hO.form2
  have HZ := Lib.hid (fun W (hW : Below w.heap.size w W) => size_in (fun b => b < w.heap.size) d W _ o (hO.kept (fun b h => hW.block b h) d) hsm (fun b h => Nat.lt_of_lt_of_le h hW.size))
  have HY := Lib.hid (fun W (hW : Below w.heap.size w W) => bytes_in (fun b => b < w.heap.size) d W _ o (hO.kept (fun b h => hW.block b h) d) hsm (fun b h => Nat.lt_of_lt_of_le h hW.size))
  have HC := Lib.hid (fun W (hW : Below w.heap.size w W) => Check_in (fun b => b < w.heap.size) d W _ o (hO.kept (fun b h => hW.block b h) d) hsm (fun b h => Nat.lt_of_lt_of_le h hW.size) (check_in _ 24 (by decide)))
  have HT := Lib.hid (fun (hok : okO 24 o) W (hW : Below w.heap.size w W) => rtext_in (fun b => b < w.heap.size) 24 d W _ o (hO.kept (fun b h => hW.block b h) d) hok (by have := text_le 24 o hok; have := hbk 24; omega) (fun b h => Nat.lt_of_lt_of_le h hW.size))
  have HL := Lib.hid (fun W hm => lives_in m W hm)
  have HM := Lib.hid hm
  have HO := Lib.hid (And.intro hO hsm)
  unfold objCells at HZ HY HC HT
  obtain ⟨ck, hck⟩ : ∃ ck, checkB 24 o = ck := ⟨_, rfl⟩
  rw [hck] at HC
  have HCK := Lib.hid hck
  unfold objCells
  clear hck hO hsm hbk hm
  go_enter Tryz.func4, Tryz.ntmps4
  go_upto_region 1 with fail
  have G0 := heap_new_at w (.cells #[.int .i64 o.kind, .int .i64 o.n, .int .i64 o.g, .string ⟨o.s.toArray⟩, .slice p1 o.keys.length c1, .slice p2 o.kids.length c2] 26 (0, 0)) _ rfl
  have hb : Below w.heap.size w (w.alloc (.cells #[.int .i64 o.kind, .int .i64 o.n, .int .i64 o.g, .string ⟨o.s.toArray⟩, .slice p1 o.keys.length c1, .slice p2 o.kids.length c2] 26)) := (by repeat' (first | (with_reducible exact Below.refl _ _) | (with_reducible refine Below.drew ?_) | (with_reducible refine belowDrewN ?_ _) | (with_reducible refine belowIter ?_ ?_ _ _) | (with_reducible refine Below.setCell ?_ ?_ _) | (with_reducible refine Below.alloc ?_ ?_ _) | (with_reducible refine Below.trans ?_ (Below.mono hb4 ?_)) | (with_reducible refine Below.trans ?_ (Below.mono hb3 ?_)) | (with_reducible refine Below.trans ?_ (Below.mono hb2 ?_)) | (with_reducible refine Below.trans ?_ (Below.mono hb1 ?_)) | (with_reducible refine Below.trans ?_ (Below.mono hbr ?_)) | (with_reducible refine Below.trans ?_ (Below.mono hb ?_)) | (simp; done) | (simp; omega) | omega))
  have L0 : w.heap.size < (w.alloc (.cells #[.int .i64 o.kind, .int .i64 o.n, .int .i64 o.g, .string ⟨o.s.toArray⟩, .slice p1 o.keys.length c1, .slice p2 o.kids.length c2] 26)).heap.size := by simp
  obtain ⟨w0, hw0⟩ : ∃ w0, w.alloc (.cells #[.int .i64 o.kind, .int .i64 o.n, .int .i64 o.g, .string ⟨o.s.toArray⟩, .slice p1 o.keys.length c1, .slice p2 o.kids.length c2] 26) = w0 := ⟨_, rfl⟩
  rw [hw0] at G0 hb L0 ⊢
  have HG0 := Lib.hid G0
  clear hw0 G0
  obtain ⟨y0, y1, y2, y3, y4, y5, yf⟩ := six_of HG0.out
  go_wp2_with fail
  refine (HZ.out _ (by repeat' (first | (with_reducible exact Below.refl _ _) | (with_reducible refine Below.drew ?_) | (with_reducible refine belowDrewN ?_ _) | (with_reducible refine belowIter ?_ ?_ _ _) | (with_reducible refine Below.setCell ?_ ?_ _) | (with_reducible refine Below.alloc ?_ ?_ _) | (with_reducible refine Below.trans ?_ (Below.mono hb4 ?_)) | (with_reducible refine Below.trans ?_ (Below.mono hb3 ?_)) | (with_reducible refine Below.trans ?_ (Below.mono hb2 ?_)) | (with_reducible refine Below.trans ?_ (Below.mono hb1 ?_)) | (with_reducible refine Below.trans ?_ (Below.mono hbr ?_)) | (with_reducible refine Below.trans ?_ (Below.mono hb ?_)) | (simp; done) | (simp; omega) | omega))).mono ?_
  rintro e w1 ⟨⟨z1, rfl⟩, hb1⟩
  have hbw5 : Below w0.heap.size w0 w1 := (by repeat' (first | (with_reducible exact Below.refl _ _) | (with_reducible refine Below.drew ?_) | (with_reducible refine belowDrewN ?_ _) | (with_reducible refine belowIter ?_ ?_ _ _) | (with_reducible refine Below.setCell ?_ ?_ _) | (with_reducible refine Below.alloc ?_ ?_ _) | (with_reducible refine Below.trans ?_ (Below.mono hb4 ?_)) | (with_reducible refine Below.trans ?_ (Below.mono hb3 ?_)) | (with_reducible refine Below.trans ?_ (Below.mono hb2 ?_)) | (with_reducible refine Below.trans ?_ (Below.mono hb1 ?_)) | (with_reducible refine Below.trans ?_ (Below.mono hbr ?_)) | (with_reducible refine Below.trans ?_ (Below.mono hb ?_)) | (simp; done) | (simp; omega) | omega))
  clear y0 y1 y2 y3 y4 y5 yf hb1 HZ
  have hz5 := hbw5.size
  obtain ⟨y0, y1, y2, y3, y4, y5, yf⟩ := six_of ((hbw5.block _ L0).trans HG0.out)
  by_cases t1 : 400 < z1
  · skip
    go_wp2_with fail
    refine (HL.out _ (HM.out.below (by repeat' (first | (with_reducible exact Below.refl _ _) | (with_reducible refine Below.drew ?_) | (with_reducible refine belowDrewN ?_ _) | (with_reducible refine belowIter ?_ ?_ _ _) | (with_reducible refine Below.setCell ?_ ?_ _) | (with_reducible refine Below.alloc ?_ ?_ _) | (with_reducible refine Below.trans ?_ (Below.mono hb4 ?_)) | (with_reducible refine Below.trans ?_ (Below.mono hbw5 ?_)) | (with_reducible refine Below.trans ?_ (Below.mono hb2 ?_)) | (with_reducible refine Below.trans ?_ (Below.mono hb1 ?_)) | (with_reducible refine Below.trans ?_ (Below.mono hbr ?_)) | (with_reducible refine Below.trans ?_ (Below.mono hb ?_)) | (simp; done) | (simp; omega) | omega)))).mono ?_
    rintro e w9 ⟨rfl, hb4⟩
    go_wp2
    go_ret
    exact ⟨rfl, (by repeat' (first | (with_reducible exact Below.refl _ _) | (with_reducible refine Below.drew ?_) | (with_reducible refine belowDrewN ?_ _) | (with_reducible refine belowIter ?_ ?_ _ _) | (with_reducible refine Below.setCell ?_ ?_ _) | (with_reducible refine Below.alloc ?_ ?_ _) | (with_reducible refine Below.trans ?_ (Below.mono hb4 ?_)) | (with_reducible refine Below.trans ?_ (Below.mono hbw5 ?_)) | (with_reducible refine Below.trans ?_ (Below.mono hb2 ?_)) | (with_reducible refine Below.trans ?_ (Below.mono hb1 ?_)) | (with_reducible refine Below.trans ?_ (Below.mono hbr ?_)) | (with_reducible refine Below.trans ?_ (Below.mono hb ?_)) | (simp; done) | (simp; omega) | omega))⟩
  go_wp2_with fail
  refine (HY.out _ (by repeat' (first | (with_reducible exact Below.refl _ _) | (with_reducible refine Below.drew ?_) | (with_reducible refine belowDrewN ?_ _) | (with_reducible refine belowIter ?_ ?_ _ _) | (with_reducible refine Below.setCell ?_ ?_ _) | (with_reducible refine Below.alloc ?_ ?_ _) | (with_reducible refine Below.trans ?_ (Below.mono hb4 ?_)) | (with_reducible refine Below.trans ?_ (Below.mono hbw5 ?_)) | (with_reducible refine Below.trans ?_ (Below.mono hb2 ?_)) | (with_reducible refine Below.trans ?_ (Below.mono hb1 ?_)) | (with_reducible refine Below.trans ?_ (Below.mono hbr ?_)) | (with_reducible refine Below.trans ?_ (Below.mono hb ?_)) | (simp; done) | (simp; omega) | omega))).mono ?_
  rintro e w1 ⟨⟨z2, rfl⟩, hb1⟩
  have hbw5 : Below w0.heap.size w0 w1 := (by repeat' (first | (with_reducible exact Below.refl _ _) | (with_reducible refine Below.drew ?_) | (with_reducible refine belowDrewN ?_ _) | (with_reducible refine belowIter ?_ ?_ _ _) | (with_reducible refine Below.setCell ?_ ?_ _) | (with_reducible refine Below.alloc ?_ ?_ _) | (with_reducible refine Below.trans ?_ (Below.mono hb4 ?_)) | (with_reducible refine Below.trans ?_ (Below.mono hbw5 ?_)) | (with_reducible refine Below.trans ?_ (Below.mono hb2 ?_)) | (with_reducible refine Below.trans ?_ (Below.mono hb1 ?_)) | (with_reducible refine Below.trans ?_ (Below.mono hbr ?_)) | (with_reducible refine Below.trans ?_ (Below.mono hb ?_)) | (simp; done) | (simp; omega) | omega))
  clear y0 y1 y2 y3 y4 y5 yf hb1 HY
  have hz5 := hbw5.size
  obtain ⟨y0, y1, y2, y3, y4, y5, yf⟩ := six_of ((hbw5.block _ L0).trans HG0.out)
  by_cases t2 : 3000 < z2
  · skip
    go_wp2_with fail
    refine (HL.out _ (HM.out.below (by repeat' (first | (with_reducible exact Below.refl _ _) | (with_reducible refine Below.drew ?_) | (with_reducible refine belowDrewN ?_ _) | (with_reducible refine belowIter ?_ ?_ _ _) | (with_reducible refine Below.setCell ?_ ?_ _) | (with_reducible refine Below.alloc ?_ ?_ _) | (with_reducible refine Below.trans ?_ (Below.mono hb4 ?_)) | (with_reducible refine Below.trans ?_ (Below.mono hbw5 ?_)) | (with_reducible refine Below.trans ?_ (Below.mono hb2 ?_)) | (with_reducible refine Below.trans ?_ (Below.mono hb1 ?_)) | (with_reducible refine Below.trans ?_ (Below.mono hbr ?_)) | (with_reducible refine Below.trans ?_ (Below.mono hb ?_)) | (simp; done) | (simp; omega) | omega)))).mono ?_
    rintro e w9 ⟨rfl, hb4⟩
    go_wp2
    go_ret
    exact ⟨rfl, (by repeat' (first | (with_reducible exact Below.refl _ _) | (with_reducible refine Below.drew ?_) | (with_reducible refine belowDrewN ?_ _) | (with_reducible refine belowIter ?_ ?_ _ _) | (with_reducible refine Below.setCell ?_ ?_ _) | (with_reducible refine Below.alloc ?_ ?_ _) | (with_reducible refine Below.trans ?_ (Below.mono hb4 ?_)) | (with_reducible refine Below.trans ?_ (Below.mono hbw5 ?_)) | (with_reducible refine Below.trans ?_ (Below.mono hb2 ?_)) | (with_reducible refine Below.trans ?_ (Below.mono hb1 ?_)) | (with_reducible refine Below.trans ?_ (Below.mono hbr ?_)) | (with_reducible refine Below.trans ?_ (Below.mono hb ?_)) | (simp; done) | (simp; omega) | omega))⟩
  by_cases t3 : 1000 < rest.size
  · skip
    go_wp2_with fail
    refine (HL.out _ (HM.out.below (by repeat' (first | (with_reducible exact Below.refl _ _) | (with_reducible refine Below.drew ?_) | (with_reducible refine belowDrewN ?_ _) | (with_reducible refine belowIter ?_ ?_ _ _) | (with_reducible refine Below.setCell ?_ ?_ _) | (with_reducible refine Below.alloc ?_ ?_ _) | (with_reducible refine Below.trans ?_ (Below.mono hb4 ?_)) | (with_reducible refine Below.trans ?_ (Below.mono hbw5 ?_)) | (with_reducible refine Below.trans ?_ (Below.mono hb2 ?_)) | (with_reducible refine Below.trans ?_ (Below.mono hb1 ?_)) | (with_reducible refine Below.trans ?_ (Below.mono hbr ?_)) | (with_reducible refine Below.trans ?_ (Below.mono hb ?_)) | (simp; done) | (simp; omega) | omega)))).mono ?_
    rintro e w9 ⟨rfl, hb4⟩
    go_wp2
    go_ret
    exact ⟨rfl, (by repeat' (first | (with_reducible exact Below.refl _ _) | (with_reducible refine Below.drew ?_) | (with_reducible refine belowDrewN ?_ _) | (with_reducible refine belowIter ?_ ?_ _ _) | (with_reducible refine Below.setCell ?_ ?_ _) | (with_reducible refine Below.alloc ?_ ?_ _) | (with_reducible refine Below.trans ?_ (Below.mono hb4 ?_)) | (with_reducible refine Below.trans ?_ (Below.mono hbw5 ?_)) | (with_reducible refine Below.trans ?_ (Below.mono hb2 ?_)) | (with_reducible refine Below.trans ?_ (Below.mono hb1 ?_)) | (with_reducible refine Below.trans ?_ (Below.mono hbr ?_)) | (with_reducible refine Below.trans ?_ (Below.mono hb ?_)) | (simp; done) | (simp; omega) | omega))⟩
  go_wp2_with fail
  refine (HC.out _ (by repeat' (first | (with_reducible exact Below.refl _ _) | (with_reducible refine Below.drew ?_) | (with_reducible refine belowDrewN ?_ _) | (with_reducible refine belowIter ?_ ?_ _ _) | (with_reducible refine Below.setCell ?_ ?_ _) | (with_reducible refine Below.alloc ?_ ?_ _) | (with_reducible refine Below.trans ?_ (Below.mono hb4 ?_)) | (with_reducible refine Below.trans ?_ (Below.mono hbw5 ?_)) | (with_reducible refine Below.trans ?_ (Below.mono hb2 ?_)) | (with_reducible refine Below.trans ?_ (Below.mono hb1 ?_)) | (with_reducible refine Below.trans ?_ (Below.mono hbr ?_)) | (with_reducible refine Below.trans ?_ (Below.mono hb ?_)) | (simp; done) | (simp; omega) | omega))).mono ?_
  rintro e w1 ⟨rfl, hb1⟩
  have hbw5 : Below w0.heap.size w0 w1 := (by repeat' (first | (with_reducible exact Below.refl _ _) | (with_reducible refine Below.drew ?_) | (with_reducible refine belowDrewN ?_ _) | (with_reducible refine belowIter ?_ ?_ _ _) | (with_reducible refine Below.setCell ?_ ?_ _) | (with_reducible refine Below.alloc ?_ ?_ _) | (with_reducible refine Below.trans ?_ (Below.mono hb4 ?_)) | (with_reducible refine Below.trans ?_ (Below.mono hbw5 ?_)) | (with_reducible refine Below.trans ?_ (Below.mono hb2 ?_)) | (with_reducible refine Below.trans ?_ (Below.mono hb1 ?_)) | (with_reducible refine Below.trans ?_ (Below.mono hbr ?_)) | (with_reducible refine Below.trans ?_ (Below.mono hb ?_)) | (simp; done) | (simp; omega) | omega))
  clear y0 y1 y2 y3 y4 y5 yf hb1 HC
  have hz5 := hbw5.size
  obtain ⟨y0, y1, y2, y3, y4, y5, yf⟩ := six_of ((hbw5.block _ L0).trans HG0.out)
  cases t4 : (ck != 0)
  case true =>
    go_wp2_with fail
    refine (HL.out _ (HM.out.below (by repeat' (first | (with_reducible exact Below.refl _ _) | (with_reducible refine Below.drew ?_) | (with_reducible refine belowDrewN ?_ _) | (with_reducible refine belowIter ?_ ?_ _ _) | (with_reducible refine Below.setCell ?_ ?_ _) | (with_reducible refine Below.alloc ?_ ?_ _) | (with_reducible refine Below.trans ?_ (Below.mono hb4 ?_)) | (with_reducible refine Below.trans ?_ (Below.mono hbw5 ?_)) | (with_reducible refine Below.trans ?_ (Below.mono hb2 ?_)) | (with_reducible refine Below.trans ?_ (Below.mono hb1 ?_)) | (with_reducible refine Below.trans ?_ (Below.mono hbr ?_)) | (with_reducible refine Below.trans ?_ (Below.mono hb ?_)) | (simp; done) | (simp; omega) | omega)))).mono ?_
    rintro e w9 ⟨rfl, hb4⟩
    go_wp2
    go_ret
    exact ⟨rfl, (by repeat' (first | (with_reducible exact Below.refl _ _) | (with_reducible refine Below.drew ?_) | (with_reducible refine belowDrewN ?_ _) | (with_reducible refine belowIter ?_ ?_ _ _) | (with_reducible refine Below.setCell ?_ ?_ _) | (with_reducible refine Below.alloc ?_ ?_ _) | (with_reducible refine Below.trans ?_ (Below.mono hb4 ?_)) | (with_reducible refine Below.trans ?_ (Below.mono hbw5 ?_)) | (with_reducible refine Below.trans ?_ (Below.mono hb2 ?_)) | (with_reducible refine Below.trans ?_ (Below.mono hb1 ?_)) | (with_reducible refine Below.trans ?_ (Below.mono hbr ?_)) | (with_reducible refine Below.trans ?_ (Below.mono hb ?_)) | (simp; done) | (simp; omega) | omega))⟩
  cases t5 : (o.kind == 9)
  case true =>
    go_wp2_with fail
    refine (HL.out _ (HM.out.below (by repeat' (first | (with_reducible exact Below.refl _ _) | (with_reducible refine Below.drew ?_) | (with_reducible refine belowDrewN ?_ _) | (with_reducible refine belowIter ?_ ?_ _ _) | (with_reducible refine Below.setCell ?_ ?_ _) | (with_reducible refine Below.alloc ?_ ?_ _) | (with_reducible refine Below.trans ?_ (Below.mono hb4 ?_)) | (with_reducible refine Below.trans ?_ (Below.mono hbw5 ?_)) | (with_reducible refine Below.trans ?_ (Below.mono hb2 ?_)) | (with_reducible refine Below.trans ?_ (Below.mono hb1 ?_)) | (with_reducible refine Below.trans ?_ (Below.mono hbr ?_)) | (with_reducible refine Below.trans ?_ (Below.mono hb ?_)) | (simp; done) | (simp; omega) | omega)))).mono ?_
    rintro e w9 ⟨rfl, hb4⟩
    go_wp2
    go_ret
    exact ⟨rfl, (by repeat' (first | (with_reducible exact Below.refl _ _) | (with_reducible refine Below.drew ?_) | (with_reducible refine belowDrewN ?_ _) | (with_reducible refine belowIter ?_ ?_ _ _) | (with_reducible refine Below.setCell ?_ ?_ _) | (with_reducible refine Below.alloc ?_ ?_ _) | (with_reducible refine Below.trans ?_ (Below.mono hb4 ?_)) | (with_reducible refine Below.trans ?_ (Below.mono hbw5 ?_)) | (with_reducible refine Below.trans ?_ (Below.mono hb2 ?_)) | (with_reducible refine Below.trans ?_ (Below.mono hb1 ?_)) | (with_reducible refine Below.trans ?_ (Below.mono hbr ?_)) | (with_reducible refine Below.trans ?_ (Below.mono hb ?_)) | (simp; done) | (simp; omega) | omega))⟩
  have hok : okO 24 o := check_okO 24 o (by omega) (fun _ => by simpa using t5) (by rw [HCK.out]; simpa using t4)
  have HT2 := Lib.hid (HT.out hok)
  obtain ⟨T, hT⟩ : ∃ T, textO 24 o = T := ⟨_, rfl⟩
  rw [hT] at HT2
  have HTE := Lib.hid (And.intro hT hok)
  clear HT hT hok
  go_wp2_with fail
  refine (HT2.out _ (by repeat' (first | (with_reducible exact Below.refl _ _) | (with_reducible refine Below.drew ?_) | (with_reducible refine belowDrewN ?_ _) | (with_reducible refine belowIter ?_ ?_ _ _) | (with_reducible refine Below.setCell ?_ ?_ _) | (with_reducible refine Below.alloc ?_ ?_ _) | (with_reducible refine Below.trans ?_ (Below.mono hb4 ?_)) | (with_reducible refine Below.trans ?_ (Below.mono hbw5 ?_)) | (with_reducible refine Below.trans ?_ (Below.mono hb2 ?_)) | (with_reducible refine Below.trans ?_ (Below.mono hb1 ?_)) | (with_reducible refine Below.trans ?_ (Below.mono hbr ?_)) | (with_reducible refine Below.trans ?_ (Below.mono hb ?_)) | (simp; done) | (simp; omega) | omega))).mono ?_
  rintro e w1 ⟨rfl, hb1⟩
  have hbw5 : Below w0.heap.size w0 w1 := (by repeat' (first | (with_reducible exact Below.refl _ _) | (with_reducible refine Below.drew ?_) | (with_reducible refine belowDrewN ?_ _) | (with_reducible refine belowIter ?_ ?_ _ _) | (with_reducible refine Below.setCell ?_ ?_ _) | (with_reducible refine Below.alloc ?_ ?_ _) | (with_reducible refine Below.trans ?_ (Below.mono hb4 ?_)) | (with_reducible refine Below.trans ?_ (Below.mono hbw5 ?_)) | (with_reducible refine Below.trans ?_ (Below.mono hb2 ?_)) | (with_reducible refine Below.trans ?_ (Below.mono hb1 ?_)) | (with_reducible refine Below.trans ?_ (Below.mono hbr ?_)) | (with_reducible refine Below.trans ?_ (Below.mono hb ?_)) | (simp; done) | (simp; omega) | omega))
  clear y0 y1 y2 y3 y4 y5 yf hb1 HT2
  have hz5 := hbw5.size
  obtain ⟨y0, y1, y2, y3, y4, y5, yf⟩ := six_of ((hbw5.block _ L0).trans HG0.out)
  by_cases t6 : 100000 < T.length
  · skip
    go_wp2_with fail
    refine (HL.out _ (HM.out.below (by repeat' (first | (with_reducible exact Below.refl _ _) | (with_reducible refine Below.drew ?_) | (with_reducible refine belowDrewN ?_ _) | (with_reducible refine belowIter ?_ ?_ _ _) | (with_reducible refine Below.setCell ?_ ?_ _) | (with_reducible refine Below.alloc ?_ ?_ _) | (with_reducible refine Below.trans ?_ (Below.mono hb4 ?_)) | (with_reducible refine Below.trans ?_ (Below.mono hbw5 ?_)) | (with_reducible refine Below.trans ?_ (Below.mono hb2 ?_)) | (with_reducible refine Below.trans ?_ (Below.mono hb1 ?_)) | (with_reducible refine Below.trans ?_ (Below.mono hbr ?_)) | (with_reducible refine Below.trans ?_ (Below.mono hb ?_)) | (simp; done) | (simp; omega) | omega)))).mono ?_
    rintro e w9 ⟨rfl, hb4⟩
    go_wp2
    go_ret
    exact ⟨rfl, (by repeat' (first | (with_reducible exact Below.refl _ _) | (with_reducible refine Below.drew ?_) | (with_reducible refine belowDrewN ?_ _) | (with_reducible refine belowIter ?_ ?_ _ _) | (with_reducible refine Below.setCell ?_ ?_ _) | (with_reducible refine Below.alloc ?_ ?_ _) | (with_reducible refine Below.trans ?_ (Below.mono hb4 ?_)) | (with_reducible refine Below.trans ?_ (Below.mono hbw5 ?_)) | (with_reducible refine Below.trans ?_ (Below.mono hb2 ?_)) | (with_reducible refine Below.trans ?_ (Below.mono hb1 ?_)) | (with_reducible refine Below.trans ?_ (Below.mono hbr ?_)) | (with_reducible refine Below.trans ?_ (Below.mono hb ?_)) | (simp; done) | (simp; omega) | omega))⟩
  have hT24 := HTE.out.1
  have hok2 := HTE.out.2
  have e1 : (⟨T.toArray⟩ : ByteArray).size = T.length := rfl
  have e2 : (⟨#[32]⟩ : ByteArray).size = 1 := rfl
  have e3 : (⟨#[10]⟩ : ByteArray).size = 1 := rfl
  have hs1 : (⟨T.toArray⟩ ++ ⟨#[32]⟩ ++ rest : ByteArray).size ≤ 140737488355327 := by simp only [ByteArray.size_append]; omega
  have hs2 : (⟨#[32]⟩ ++ ⟨T.toArray⟩ ++ ⟨#[10]⟩ : ByteArray).size ≤ 140737488355327 := by simp only [ByteArray.size_append]; omega
  clear e1 e2 e3
  have hl1 : (⟨T.toArray⟩ ++ ⟨#[32]⟩ ++ rest : ByteArray).data.toList = T ++ 32 :: rest.data.toList := by simp
  have hl2 : (⟨#[32]⟩ ++ ⟨T.toArray⟩ ++ ⟨#[10]⟩ : ByteArray).data.toList = 32 :: (T ++ [10]) := by simp
  have HR2 := back_whole hok2
  rw [hT24] at HR2
  have HWH := Lib.hid (fun W hm => Whole_in (⟨#[32]⟩ ++ ⟨T.toArray⟩ ++ ⟨#[10]⟩ : ByteArray) hs2 m W hm)
  rw [hl2, whole_of HR2] at HWH
  have HOB := Lib.hid (fun W hm => Object_zero (⟨T.toArray⟩ ++ ⟨#[32]⟩ ++ rest : ByteArray) hs1 m W hm)
  have HL1 := Lib.hid hl1
  rw [hl1] at HOB
  have HR1 := HRR.out T hT24
  rw [HR1] at HOB
  clear HR1 HRR
  clear hT24 hok2 hs1 hs2 hl1 hl2 HR2
  have q1 : T.length + 1 ≤ 9223372036854775807 := by omega
  have q2 : T.length + 1 + rest.size ≤ 9223372036854775807 := by omega
  have q3 : 1 + T.length ≤ 9223372036854775807 := by omega
  have q4 : 1 + T.length + 1 ≤ 9223372036854775807 := by omega
  clear t1 t2 t4 t5
  go_wp2_with fail
  refine (HOB.out _ (HM.out.below (by repeat' (first | (with_reducible exact Below.refl _ _) | (with_reducible refine Below.drew ?_) | (with_reducible refine belowDrewN ?_ _) | (with_reducible refine belowIter ?_ ?_ _ _) | (with_reducible refine Below.setCell ?_ ?_ _) | (with_reducible refine Below.alloc ?_ ?_ _) | (with_reducible refine Below.trans ?_ (Below.mono hb4 ?_)) | (with_reducible refine Below.trans ?_ (Below.mono hbw5 ?_)) | (with_reducible refine Below.trans ?_ (Below.mono hb2 ?_)) | (with_reducible refine Below.trans ?_ (Below.mono hb1 ?_)) | (with_reducible refine Below.trans ?_ (Below.mono hbr ?_)) | (with_reducible refine Below.trans ?_ (Below.mono hb ?_)) | (simp; done) | (simp; omega) | omega)))).mono ?_
  rintro e w6 ⟨p3, n3, d3, p4, n4, d4, z, rfl, hz0, hz1, O1, hb1⟩
  have hbw5 : Below w0.heap.size w0 w6 := (by repeat' (first | (with_reducible exact Below.refl _ _) | (with_reducible refine Below.drew ?_) | (with_reducible refine belowDrewN ?_ _) | (with_reducible refine belowIter ?_ ?_ _ _) | (with_reducible refine Below.setCell ?_ ?_ _) | (with_reducible refine Below.alloc ?_ ?_ _) | (with_reducible refine Below.trans ?_ (Below.mono hb4 ?_)) | (with_reducible refine Below.trans ?_ (Below.mono hbw5 ?_)) | (with_reducible refine Below.trans ?_ (Below.mono hb2 ?_)) | (with_reducible refine Below.trans ?_ (Below.mono hb1 ?_)) | (with_reducible refine Below.trans ?_ (Below.mono hbr ?_)) | (with_reducible refine Below.trans ?_ (Below.mono hb ?_)) | (simp; done) | (simp; omega) | omega))
  have hz5 := hbw5.size
  clear hz0 hz1 O1
  go_wp2_with fail
  refine (HWH.out _ (HM.out.below (by repeat' (first | (with_reducible exact Below.refl _ _) | (with_reducible refine Below.drew ?_) | (with_reducible refine belowDrewN ?_ _) | (with_reducible refine belowIter ?_ ?_ _ _) | (with_reducible refine Below.setCell ?_ ?_ _) | (with_reducible refine Below.alloc ?_ ?_ _) | (with_reducible refine Below.trans ?_ (Below.mono hb4 ?_)) | (with_reducible refine Below.trans ?_ (Below.mono hbw5 ?_)) | (with_reducible refine Below.trans ?_ (Below.mono hb2 ?_)) | (with_reducible refine Below.trans ?_ (Below.mono hb1 ?_)) | (with_reducible refine Below.trans ?_ (Below.mono hbr ?_)) | (with_reducible refine Below.trans ?_ (Below.mono hb ?_)) | (simp; done) | (simp; omega) | omega)))).mono ?_
  rintro e w7 ⟨q5, n5, d5, q6, n6, d6, rfl, O2, hb2⟩
  have hz6 := hz5
  have hb67 := belowStep (Below.refl w6.heap.size w6) (Nat.le_refl _) hb2
  have hbw5 : Below w0.heap.size w0 w7 := hbw5.trans (hb67.mono hz6)
  have HA0 := (hb2.block w6.heap.size (by simp)).trans (heap_new_at w6 _ _ rfl)
  clear y0 y1 y2 y3 y4 y5 yf hb1 hb2 HWH HOB hz5
  have hz5 := hbw5.size
  obtain ⟨y0, y1, y2, y3, y4, y5, yf⟩ := six_of ((hbw5.block _ L0).trans HG0.out)
  go_upto_region 8 with fail
  obtain ⟨w8, hw8⟩ : ∃ w8, w7.alloc (.cells #[.int .i64 o.kind, .int .i64 o.n, .int .i64 o.g, .string ⟨o.s.toArray⟩, .slice q5 n5 d5, .slice q6 n6 d6] 26) = w8 := ⟨_, rfl⟩
  go_must (rw [hw8])
  have hb8 : Below w7.heap.size w7 w8 := by rw [← hw8]; exact (by repeat' (first | (with_reducible exact Below.refl _ _) | (with_reducible refine Below.setCell ?_ ?_ _) | (with_reducible refine Below.alloc ?_ ?_ _) | (show _ ≤ _; simp; done) | (show _ ≤ _; simp; omega) | omega))
  have HB : w8.heap[w7.heap.size]? = some (.cells #[.int .i64 o.kind, .int .i64 o.n, .int .i64 o.g, .string ⟨o.s.toArray⟩, .slice q5 n5 d5, .slice q6 n6 d6] 26 (0, 0)) := by rw [← hw8]; exact heap_new_at _ _ _ rfl
  clear hw8
  have hz67 := hb67.size
  have hz78 := hb8.size
  have h68 := hb67.trans (hb8.mono hz67)
  have h08 := hbw5.trans (hb8.mono hz5)
  have HA := (hb8.block w6.heap.size (by have := lt_of_blk HA0; exact this)).trans HA0
  have HBX := (h08.block w.heap.size L0).trans HG0.out
  have hbw8 := hb.trans (h08.mono hb.size)
  have s0 := hbw8.size
  have HYY := Lib.hid (fun (W : World) (hW : Below w8.heap.size w8 W) => same_in (fun b => b < w8.heap.size) (25 + d) W _ _ o
    (ObjAt.grow (S' := fun b => b < w8.heap.size) (O2.upN d) (fun b h1 h2 => ⟨by omega, (hb8.trans (hW.mono (by omega))).block b h2⟩))
    (ObjAt.grow (S' := fun b => b < w8.heap.size) (show ObjAt (fun b => b < w.heap.size) (25 + d) w _ o by rw [Nat.add_comm]; exact HO.out.1.upN 25) (fun b h1 h2 => ⟨by omega, (hbw8.trans (hW.mono (by omega))).block b h2⟩)) (by rw [Nat.add_comm]; exact small_upN HO.out.2 25) (fun b h => Nat.lt_of_lt_of_le h hW.size))
  unfold objCells at HYY
  have m8 := HM.out.below hbw8
  clear O2 hb67 hb8 h68 h08 hbw5 y0 y1 y2 y3 y4 y5 yf HA0 HO HTE HCK HL1
  obtain ⟨a0, a1, a2, a3, a4, a5, af⟩ := six_of HA
  obtain ⟨b0, b1, b2, b3, b4, b5, bf⟩ := six_of HBX
  obtain ⟨x0, x1, x2, x3, x4, x5, xf⟩ := six_of HB
  have lB := lt_of_blk HB
  have lX := lt_of_blk HBX
  have a0' : w8.cell? ⟨w6.heap.size, 0, none⟩ = some (.int .i64 8) := a0
  have a1' : w8.cell? ⟨w6.heap.size, 1, none⟩ = some (.int .i64 o.n) := a1
  clear a0 a1
  go_wp2_with fail
  refine (HYY.out _ (Below.refl _ _)).mono ?_
  rintro e v2 ⟨rfl, hv12⟩
  have m9 := m8.below hv12
  clear HA HB HBX a0' a1' a2 a3 a4 a5 af b0 b1 b2 b3 b4 b5 bf x0 x1 x2 x3 x4 x5 xf HYY
  go_wp2_with fail
  refine (HL.out _ m9).mono ?_
  rintro e v3 ⟨rfl, hv3⟩
  have hbw3 := hbw8.trans (hv12.mono s0)
  have u2 := hv12.size
  go_wp2
  go_ret
  exact ⟨rfl, hbw3.trans (hv3.mono (by omega))⟩
set_option maxRecDepth 100000 in
set_option maxHeartbeats 4000000 in
theorem back_bad (d : Nat) (o : Ob) (cs : List Value) (rest : ByteArray) (m : Int) (w : World) (hm : MaxW w m) (hO : ObjAt (fun b => b < w.heap.size) d w cs o) (hbk : ∀ e, bulkO e o ≤ 1048576) (hbad : ¬ okO 24 o) :
    Calls Tryz.prog 4 #[.agg cs.toArray, .string rest] w fun e w' => e = .returned (.bool true) ∧ Below w.heap.size w w' := by
  have HBAD := Lib.hid hbad
  clear hbad
  have hsm := small_of (by decide) d cs o hO hbk
  obtain ⟨p1, c1, p2, c2, rfl⟩ := hO.form2
  have HZ := Lib.hid (fun W (hW : Below w.heap.size w W) => size_in (fun b => b < w.heap.size) d W _ o (hO.kept (fun b h => hW.block b h) d) hsm (fun b h => Nat.lt_of_lt_of_le h hW.size))
  have HY := Lib.hid (fun W (hW : Below w.heap.size w W) => bytes_in (fun b => b < w.heap.size) d W _ o (hO.kept (fun b h => hW.block b h) d) hsm (fun b h => Nat.lt_of_lt_of_le h hW.size))
  have HC := Lib.hid (fun W (hW : Below w.heap.size w W) => Check_in (fun b => b < w.heap.size) d W _ o (hO.kept (fun b h => hW.block b h) d) hsm (fun b h => Nat.lt_of_lt_of_le h hW.size) (check_in _ 24 (by decide)))
  have HT := Lib.hid (fun (hok : okO 24 o) W (hW : Below w.heap.size w W) => rtext_in (fun b => b < w.heap.size) 24 d W _ o (hO.kept (fun b h => hW.block b h) d) hok (by have := text_le 24 o hok; have := hbk 24; omega) (fun b h => Nat.lt_of_lt_of_le h hW.size))
  have HL := Lib.hid (fun W hm => lives_in m W hm)
  have HM := Lib.hid hm
  have HO := Lib.hid (And.intro hO hsm)
  unfold objCells at HZ HY HC HT
  obtain ⟨ck, hck⟩ : ∃ ck, checkB 24 o = ck := ⟨_, rfl⟩
  rw [hck] at HC
  have HCK := Lib.hid hck
  unfold objCells
  clear hck hO hsm hbk hm
  go_enter Tryz.func4, Tryz.ntmps4
  go_upto_region 1 with fail
  have G0 := heap_new_at w (.cells #[.int .i64 o.kind, .int .i64 o.n, .int .i64 o.g, .string ⟨o.s.toArray⟩, .slice p1 o.keys.length c1, .slice p2 o.kids.length c2] 26 (0, 0)) _ rfl
  have hb : Below w.heap.size w (w.alloc (.cells #[.int .i64 o.kind, .int .i64 o.n, .int .i64 o.g, .string ⟨o.s.toArray⟩, .slice p1 o.keys.length c1, .slice p2 o.kids.length c2] 26)) := (by repeat' (first | (with_reducible exact Below.refl _ _) | (with_reducible refine Below.drew ?_) | (with_reducible refine belowDrewN ?_ _) | (with_reducible refine belowIter ?_ ?_ _ _) | (with_reducible refine Below.setCell ?_ ?_ _) | (with_reducible refine Below.alloc ?_ ?_ _) | (with_reducible refine Below.trans ?_ (Below.mono hb4 ?_)) | (with_reducible refine Below.trans ?_ (Below.mono hb3 ?_)) | (with_reducible refine Below.trans ?_ (Below.mono hb2 ?_)) | (with_reducible refine Below.trans ?_ (Below.mono hb1 ?_)) | (with_reducible refine Below.trans ?_ (Below.mono hbr ?_)) | (with_reducible refine Below.trans ?_ (Below.mono hb ?_)) | (simp; done) | (simp; omega) | omega))
  have L0 : w.heap.size < (w.alloc (.cells #[.int .i64 o.kind, .int .i64 o.n, .int .i64 o.g, .string ⟨o.s.toArray⟩, .slice p1 o.keys.length c1, .slice p2 o.kids.length c2] 26)).heap.size := by simp
  obtain ⟨w0, hw0⟩ : ∃ w0, w.alloc (.cells #[.int .i64 o.kind, .int .i64 o.n, .int .i64 o.g, .string ⟨o.s.toArray⟩, .slice p1 o.keys.length c1, .slice p2 o.kids.length c2] 26) = w0 := ⟨_, rfl⟩
  rw [hw0] at G0 hb L0 ⊢
  have HG0 := Lib.hid G0
  clear hw0 G0
  obtain ⟨y0, y1, y2, y3, y4, y5, yf⟩ := six_of HG0.out
  go_wp2_with fail
  refine (HZ.out _ (by repeat' (first | (with_reducible exact Below.refl _ _) | (with_reducible refine Below.drew ?_) | (with_reducible refine belowDrewN ?_ _) | (with_reducible refine belowIter ?_ ?_ _ _) | (with_reducible refine Below.setCell ?_ ?_ _) | (with_reducible refine Below.alloc ?_ ?_ _) | (with_reducible refine Below.trans ?_ (Below.mono hb4 ?_)) | (with_reducible refine Below.trans ?_ (Below.mono hb3 ?_)) | (with_reducible refine Below.trans ?_ (Below.mono hb2 ?_)) | (with_reducible refine Below.trans ?_ (Below.mono hb1 ?_)) | (with_reducible refine Below.trans ?_ (Below.mono hbr ?_)) | (with_reducible refine Below.trans ?_ (Below.mono hb ?_)) | (simp; done) | (simp; omega) | omega))).mono ?_
  rintro e w1 ⟨⟨z1, rfl⟩, hb1⟩
  have hbw5 : Below w0.heap.size w0 w1 := (by repeat' (first | (with_reducible exact Below.refl _ _) | (with_reducible refine Below.drew ?_) | (with_reducible refine belowDrewN ?_ _) | (with_reducible refine belowIter ?_ ?_ _ _) | (with_reducible refine Below.setCell ?_ ?_ _) | (with_reducible refine Below.alloc ?_ ?_ _) | (with_reducible refine Below.trans ?_ (Below.mono hb4 ?_)) | (with_reducible refine Below.trans ?_ (Below.mono hb3 ?_)) | (with_reducible refine Below.trans ?_ (Below.mono hb2 ?_)) | (with_reducible refine Below.trans ?_ (Below.mono hb1 ?_)) | (with_reducible refine Below.trans ?_ (Below.mono hbr ?_)) | (with_reducible refine Below.trans ?_ (Below.mono hb ?_)) | (simp; done) | (simp; omega) | omega))
  clear y0 y1 y2 y3 y4 y5 yf hb1 HZ
  have hz5 := hbw5.size
  obtain ⟨y0, y1, y2, y3, y4, y5, yf⟩ := six_of ((hbw5.block _ L0).trans HG0.out)
  by_cases t1 : 400 < z1
  · skip
    go_wp2_with fail
    refine (HL.out _ (HM.out.below (by repeat' (first | (with_reducible exact Below.refl _ _) | (with_reducible refine Below.drew ?_) | (with_reducible refine belowDrewN ?_ _) | (with_reducible refine belowIter ?_ ?_ _ _) | (with_reducible refine Below.setCell ?_ ?_ _) | (with_reducible refine Below.alloc ?_ ?_ _) | (with_reducible refine Below.trans ?_ (Below.mono hb4 ?_)) | (with_reducible refine Below.trans ?_ (Below.mono hbw5 ?_)) | (with_reducible refine Below.trans ?_ (Below.mono hb2 ?_)) | (with_reducible refine Below.trans ?_ (Below.mono hb1 ?_)) | (with_reducible refine Below.trans ?_ (Below.mono hbr ?_)) | (with_reducible refine Below.trans ?_ (Below.mono hb ?_)) | (simp; done) | (simp; omega) | omega)))).mono ?_
    rintro e w9 ⟨rfl, hb4⟩
    go_wp2
    go_ret
    exact ⟨rfl, (by repeat' (first | (with_reducible exact Below.refl _ _) | (with_reducible refine Below.drew ?_) | (with_reducible refine belowDrewN ?_ _) | (with_reducible refine belowIter ?_ ?_ _ _) | (with_reducible refine Below.setCell ?_ ?_ _) | (with_reducible refine Below.alloc ?_ ?_ _) | (with_reducible refine Below.trans ?_ (Below.mono hb4 ?_)) | (with_reducible refine Below.trans ?_ (Below.mono hbw5 ?_)) | (with_reducible refine Below.trans ?_ (Below.mono hb2 ?_)) | (with_reducible refine Below.trans ?_ (Below.mono hb1 ?_)) | (with_reducible refine Below.trans ?_ (Below.mono hbr ?_)) | (with_reducible refine Below.trans ?_ (Below.mono hb ?_)) | (simp; done) | (simp; omega) | omega))⟩
  go_wp2_with fail
  refine (HY.out _ (by repeat' (first | (with_reducible exact Below.refl _ _) | (with_reducible refine Below.drew ?_) | (with_reducible refine belowDrewN ?_ _) | (with_reducible refine belowIter ?_ ?_ _ _) | (with_reducible refine Below.setCell ?_ ?_ _) | (with_reducible refine Below.alloc ?_ ?_ _) | (with_reducible refine Below.trans ?_ (Below.mono hb4 ?_)) | (with_reducible refine Below.trans ?_ (Below.mono hbw5 ?_)) | (with_reducible refine Below.trans ?_ (Below.mono hb2 ?_)) | (with_reducible refine Below.trans ?_ (Below.mono hb1 ?_)) | (with_reducible refine Below.trans ?_ (Below.mono hbr ?_)) | (with_reducible refine Below.trans ?_ (Below.mono hb ?_)) | (simp; done) | (simp; omega) | omega))).mono ?_
  rintro e w1 ⟨⟨z2, rfl⟩, hb1⟩
  have hbw5 : Below w0.heap.size w0 w1 := (by repeat' (first | (with_reducible exact Below.refl _ _) | (with_reducible refine Below.drew ?_) | (with_reducible refine belowDrewN ?_ _) | (with_reducible refine belowIter ?_ ?_ _ _) | (with_reducible refine Below.setCell ?_ ?_ _) | (with_reducible refine Below.alloc ?_ ?_ _) | (with_reducible refine Below.trans ?_ (Below.mono hb4 ?_)) | (with_reducible refine Below.trans ?_ (Below.mono hbw5 ?_)) | (with_reducible refine Below.trans ?_ (Below.mono hb2 ?_)) | (with_reducible refine Below.trans ?_ (Below.mono hb1 ?_)) | (with_reducible refine Below.trans ?_ (Below.mono hbr ?_)) | (with_reducible refine Below.trans ?_ (Below.mono hb ?_)) | (simp; done) | (simp; omega) | omega))
  clear y0 y1 y2 y3 y4 y5 yf hb1 HY
  have hz5 := hbw5.size
  obtain ⟨y0, y1, y2, y3, y4, y5, yf⟩ := six_of ((hbw5.block _ L0).trans HG0.out)
  by_cases t2 : 3000 < z2
  · skip
    go_wp2_with fail
    refine (HL.out _ (HM.out.below (by repeat' (first | (with_reducible exact Below.refl _ _) | (with_reducible refine Below.drew ?_) | (with_reducible refine belowDrewN ?_ _) | (with_reducible refine belowIter ?_ ?_ _ _) | (with_reducible refine Below.setCell ?_ ?_ _) | (with_reducible refine Below.alloc ?_ ?_ _) | (with_reducible refine Below.trans ?_ (Below.mono hb4 ?_)) | (with_reducible refine Below.trans ?_ (Below.mono hbw5 ?_)) | (with_reducible refine Below.trans ?_ (Below.mono hb2 ?_)) | (with_reducible refine Below.trans ?_ (Below.mono hb1 ?_)) | (with_reducible refine Below.trans ?_ (Below.mono hbr ?_)) | (with_reducible refine Below.trans ?_ (Below.mono hb ?_)) | (simp; done) | (simp; omega) | omega)))).mono ?_
    rintro e w9 ⟨rfl, hb4⟩
    go_wp2
    go_ret
    exact ⟨rfl, (by repeat' (first | (with_reducible exact Below.refl _ _) | (with_reducible refine Below.drew ?_) | (with_reducible refine belowDrewN ?_ _) | (with_reducible refine belowIter ?_ ?_ _ _) | (with_reducible refine Below.setCell ?_ ?_ _) | (with_reducible refine Below.alloc ?_ ?_ _) | (with_reducible refine Below.trans ?_ (Below.mono hb4 ?_)) | (with_reducible refine Below.trans ?_ (Below.mono hbw5 ?_)) | (with_reducible refine Below.trans ?_ (Below.mono hb2 ?_)) | (with_reducible refine Below.trans ?_ (Below.mono hb1 ?_)) | (with_reducible refine Below.trans ?_ (Below.mono hbr ?_)) | (with_reducible refine Below.trans ?_ (Below.mono hb ?_)) | (simp; done) | (simp; omega) | omega))⟩
  by_cases t3 : 1000 < rest.size
  · skip
    go_wp2_with fail
    refine (HL.out _ (HM.out.below (by repeat' (first | (with_reducible exact Below.refl _ _) | (with_reducible refine Below.drew ?_) | (with_reducible refine belowDrewN ?_ _) | (with_reducible refine belowIter ?_ ?_ _ _) | (with_reducible refine Below.setCell ?_ ?_ _) | (with_reducible refine Below.alloc ?_ ?_ _) | (with_reducible refine Below.trans ?_ (Below.mono hb4 ?_)) | (with_reducible refine Below.trans ?_ (Below.mono hbw5 ?_)) | (with_reducible refine Below.trans ?_ (Below.mono hb2 ?_)) | (with_reducible refine Below.trans ?_ (Below.mono hb1 ?_)) | (with_reducible refine Below.trans ?_ (Below.mono hbr ?_)) | (with_reducible refine Below.trans ?_ (Below.mono hb ?_)) | (simp; done) | (simp; omega) | omega)))).mono ?_
    rintro e w9 ⟨rfl, hb4⟩
    go_wp2
    go_ret
    exact ⟨rfl, (by repeat' (first | (with_reducible exact Below.refl _ _) | (with_reducible refine Below.drew ?_) | (with_reducible refine belowDrewN ?_ _) | (with_reducible refine belowIter ?_ ?_ _ _) | (with_reducible refine Below.setCell ?_ ?_ _) | (with_reducible refine Below.alloc ?_ ?_ _) | (with_reducible refine Below.trans ?_ (Below.mono hb4 ?_)) | (with_reducible refine Below.trans ?_ (Below.mono hbw5 ?_)) | (with_reducible refine Below.trans ?_ (Below.mono hb2 ?_)) | (with_reducible refine Below.trans ?_ (Below.mono hb1 ?_)) | (with_reducible refine Below.trans ?_ (Below.mono hbr ?_)) | (with_reducible refine Below.trans ?_ (Below.mono hb ?_)) | (simp; done) | (simp; omega) | omega))⟩
  go_wp2_with fail
  refine (HC.out _ (by repeat' (first | (with_reducible exact Below.refl _ _) | (with_reducible refine Below.drew ?_) | (with_reducible refine belowDrewN ?_ _) | (with_reducible refine belowIter ?_ ?_ _ _) | (with_reducible refine Below.setCell ?_ ?_ _) | (with_reducible refine Below.alloc ?_ ?_ _) | (with_reducible refine Below.trans ?_ (Below.mono hb4 ?_)) | (with_reducible refine Below.trans ?_ (Below.mono hbw5 ?_)) | (with_reducible refine Below.trans ?_ (Below.mono hb2 ?_)) | (with_reducible refine Below.trans ?_ (Below.mono hb1 ?_)) | (with_reducible refine Below.trans ?_ (Below.mono hbr ?_)) | (with_reducible refine Below.trans ?_ (Below.mono hb ?_)) | (simp; done) | (simp; omega) | omega))).mono ?_
  rintro e w1 ⟨rfl, hb1⟩
  have hbw5 : Below w0.heap.size w0 w1 := (by repeat' (first | (with_reducible exact Below.refl _ _) | (with_reducible refine Below.drew ?_) | (with_reducible refine belowDrewN ?_ _) | (with_reducible refine belowIter ?_ ?_ _ _) | (with_reducible refine Below.setCell ?_ ?_ _) | (with_reducible refine Below.alloc ?_ ?_ _) | (with_reducible refine Below.trans ?_ (Below.mono hb4 ?_)) | (with_reducible refine Below.trans ?_ (Below.mono hbw5 ?_)) | (with_reducible refine Below.trans ?_ (Below.mono hb2 ?_)) | (with_reducible refine Below.trans ?_ (Below.mono hb1 ?_)) | (with_reducible refine Below.trans ?_ (Below.mono hbr ?_)) | (with_reducible refine Below.trans ?_ (Below.mono hb ?_)) | (simp; done) | (simp; omega) | omega))
  clear y0 y1 y2 y3 y4 y5 yf hb1 HC
  have hz5 := hbw5.size
  obtain ⟨y0, y1, y2, y3, y4, y5, yf⟩ := six_of ((hbw5.block _ L0).trans HG0.out)
  cases t4 : (ck != 0)
  case true =>
    go_wp2_with fail
    refine (HL.out _ (HM.out.below (by repeat' (first | (with_reducible exact Below.refl _ _) | (with_reducible refine Below.drew ?_) | (with_reducible refine belowDrewN ?_ _) | (with_reducible refine belowIter ?_ ?_ _ _) | (with_reducible refine Below.setCell ?_ ?_ _) | (with_reducible refine Below.alloc ?_ ?_ _) | (with_reducible refine Below.trans ?_ (Below.mono hb4 ?_)) | (with_reducible refine Below.trans ?_ (Below.mono hbw5 ?_)) | (with_reducible refine Below.trans ?_ (Below.mono hb2 ?_)) | (with_reducible refine Below.trans ?_ (Below.mono hb1 ?_)) | (with_reducible refine Below.trans ?_ (Below.mono hbr ?_)) | (with_reducible refine Below.trans ?_ (Below.mono hb ?_)) | (simp; done) | (simp; omega) | omega)))).mono ?_
    rintro e w9 ⟨rfl, hb4⟩
    go_wp2
    go_ret
    exact ⟨rfl, (by repeat' (first | (with_reducible exact Below.refl _ _) | (with_reducible refine Below.drew ?_) | (with_reducible refine belowDrewN ?_ _) | (with_reducible refine belowIter ?_ ?_ _ _) | (with_reducible refine Below.setCell ?_ ?_ _) | (with_reducible refine Below.alloc ?_ ?_ _) | (with_reducible refine Below.trans ?_ (Below.mono hb4 ?_)) | (with_reducible refine Below.trans ?_ (Below.mono hbw5 ?_)) | (with_reducible refine Below.trans ?_ (Below.mono hb2 ?_)) | (with_reducible refine Below.trans ?_ (Below.mono hb1 ?_)) | (with_reducible refine Below.trans ?_ (Below.mono hbr ?_)) | (with_reducible refine Below.trans ?_ (Below.mono hb ?_)) | (simp; done) | (simp; omega) | omega))⟩
  cases t5 : (o.kind == 9)
  case true =>
    go_wp2_with fail
    refine (HL.out _ (HM.out.below (by repeat' (first | (with_reducible exact Below.refl _ _) | (with_reducible refine Below.drew ?_) | (with_reducible refine belowDrewN ?_ _) | (with_reducible refine belowIter ?_ ?_ _ _) | (with_reducible refine Below.setCell ?_ ?_ _) | (with_reducible refine Below.alloc ?_ ?_ _) | (with_reducible refine Below.trans ?_ (Below.mono hb4 ?_)) | (with_reducible refine Below.trans ?_ (Below.mono hbw5 ?_)) | (with_reducible refine Below.trans ?_ (Below.mono hb2 ?_)) | (with_reducible refine Below.trans ?_ (Below.mono hb1 ?_)) | (with_reducible refine Below.trans ?_ (Below.mono hbr ?_)) | (with_reducible refine Below.trans ?_ (Below.mono hb ?_)) | (simp; done) | (simp; omega) | omega)))).mono ?_
    rintro e w9 ⟨rfl, hb4⟩
    go_wp2
    go_ret
    exact ⟨rfl, (by repeat' (first | (with_reducible exact Below.refl _ _) | (with_reducible refine Below.drew ?_) | (with_reducible refine belowDrewN ?_ _) | (with_reducible refine belowIter ?_ ?_ _ _) | (with_reducible refine Below.setCell ?_ ?_ _) | (with_reducible refine Below.alloc ?_ ?_ _) | (with_reducible refine Below.trans ?_ (Below.mono hb4 ?_)) | (with_reducible refine Below.trans ?_ (Below.mono hbw5 ?_)) | (with_reducible refine Below.trans ?_ (Below.mono hb2 ?_)) | (with_reducible refine Below.trans ?_ (Below.mono hb1 ?_)) | (with_reducible refine Below.trans ?_ (Below.mono hbr ?_)) | (with_reducible refine Below.trans ?_ (Below.mono hb ?_)) | (simp; done) | (simp; omega) | omega))⟩
  exact absurd (check_okO 24 o (by omega) (fun _ => by simpa using t5) (by rw [HCK.out]; simpa using t4)) HBAD.out
/-- The statement, whatever the object and the rest. -/
theorem back_in (d : Nat) (o : Ob) (cs : List Value) (rest : ByteArray) (m : Int) (w : World) (hm : MaxW w m) (hO : ObjAt (fun b => b < w.heap.size) d w cs o) (hbk : ∀ e, bulkO e o ≤ 1048576) :
    Calls Tryz.prog 4 #[.agg cs.toArray, .string rest] w fun e w' => e = .returned (.bool true) ∧ Below w.heap.size w w' := by
  cases hk : (o.kind == 2) with
  | false => exact back_other d o cs rest m w hm hO hbk hk
  | true =>
    have hk' : o.kind = 2 := by simpa using hk
    by_cases hok : okO 24 o
    · rcases back_int hok hk' 32 rest.data.toList sep32 with h | ⟨g, l, h⟩
      · exact back_int1 d o cs rest m w hm hO hbk hk (fun T hT => by rw [← hT]; exact h)
      · exact back_int2 d o cs rest m w hm hO hbk hk g l (fun T hT => by rw [← hT]; exact h)
    · exact back_bad d o cs rest m w hm hO hbk hok
end Go.Proofs.YtpadlepdgnlgnaaGreatDoor
