/- The walks of the measures foliantref05.Size and foliantref19.Size: exact, where the bulk is small. -/
import Derived.Test.YtfgdhcemidlnfaaGreatDoorGPlB
import Derived.Test.YtfgdhcemidlnfaaGreatDoorGChk
import Derived.Test.YtfgdhcemidlnfaaGreatDoorGLib
import Derived.Test.YtfgdhcemidlnfaaGreatDoorGDo
set_option linter.all false
namespace Go.Proofs.YtfgdhcemidlnfaaGreatDoor
open Go.RowKit Fo

def SizeX (S : Nat → Prop) (d : Nat) : Prop := ∀ (w : World) (cs : List Value) (o : Ob), ObjAt S d w cs o → smallO d o → (∀ b, S b → b < w.heap.size) → bulkO d o ≤ 1048576 →
  Calls Tryz.prog 19 #[.agg cs.toArray] w fun e w' => e = .returned (.int .i64 (sizeO d o)) ∧ Below w.heap.size w w'
set_option maxHeartbeats 1000000 in
theorem sizeX_step (S : Nat → Prop) (d : Nat) (IH : SizeX S d) : SizeX S (d + 1) := by
  intro w cs o hO hsm hS hbk
  obtain ⟨p1, c1, p2, c2, rfl⟩ := hO.form2
  have HB := Lib.hid hbk
  have HSL := Lib.hid (show o.s.length ≤ 1048576 from Nat.le_trans (bulk_s d o) hbk)
  obtain ⟨kv, dv, hcs, hK0, hR0⟩ := hO
  have hR : RowAt S d w (.slice p2 o.kids.length c2) o.kids := by
    simp [objCells] at hcs; rw [hcs.2]; exact hR0
  have hK : KeysAt S w (.slice p1 o.keys.length c1) o.keys := by
    simp [objCells] at hcs; rw [hcs.1]; exact hK0
  clear hR0 hcs hK0
  obtain ⟨m1, m2, m3, m4, m5⟩ := hsm
  have HRW := Lib.hid (And.intro hR (And.intro m5 hS))
  have HKW := Lib.hid (And.intro hK m4)
  obtain ⟨nk, hnk⟩ : ∃ nk, o.kids.length = nk := ⟨_, rfl⟩
  obtain ⟨nq, hnq⟩ : ∃ nq, o.keys.length = nq := ⟨_, rfl⟩
  have HNK := Lib.hid hnk
  have HNQ := Lib.hid hnq
  rw [hnk] at HRW m2
  rw [hnq] at HKW m1
  unfold objCells
  rw [hnk, hnq]
  have m3' : o.s.length < 9223372036854775807 := by omega
  clear hR hK hS m4 m5 hnk hnq hbk
  go_enter Tryz.func19, Tryz.ntmps19
  go_wp2
  go_loopw [3, 16] (fun v i wr => ∃ (k : Nat), k ≤ nq ∧ i = .int .i64 k ∧ v = .int .i64 ((1 + o.s.length / 50 + ((o.keys.take k).map fun k => k.length / 50).sum : Nat) : Int) ∧ Below (w.heap.size + 1) (w.alloc (.cells #[.int .i64 o.kind, .int .i64 o.n, .int .i64 o.g, .string ⟨o.s.toArray⟩, .slice p1 nq c1, .slice p2 nk c2] 26)) wr) (fun _ i _ => nq - (intOf i).toNat)
  case atStart =>
    have := HSL.out
    exact ⟨0, Nat.zero_le _, rfl, by simp, (by repeat' (first | (with_reducible first | exact Below.refl _ _ | refine Below.drew ?_ | refine belowDrewN ?_ _ | refine belowIter ?_ ?_ _ _ | refine Below.setCell ?_ ?_ _ | refine Below.alloc ?_ ?_ _ | refine bT hb4 ?_ ?_ | refine bT hb3 ?_ ?_ | refine bT hb2 ?_ ?_ | refine bT hb1 ?_ ?_ | refine bT hbr ?_ ?_ | refine bT hb ?_ ?_) | (simp; done) | (simp; omega) | omega))⟩
  case round =>
    obtain ⟨k, hk, rfl, rfl, hb⟩ := hrel
    by_cases hlt : k < nq
    ·
      have hbw : Below w.heap.size w wr := (show Below w.heap.size w (w.alloc (.cells #[.int .i64 o.kind, .int .i64 o.n, .int .i64 o.g, .string ⟨o.s.toArray⟩, .slice p1 nq c1, .slice p2 nk c2] 26)) from (by repeat' (first | (with_reducible first | exact Below.refl _ _ | refine Below.drew ?_ | refine belowDrewN ?_ _ | refine belowIter ?_ ?_ _ _ | refine Below.setCell ?_ ?_ _ | refine Below.alloc ?_ ?_ _ | refine bT hb4 ?_ ?_ | refine bT hb3 ?_ ?_ | refine bT hb2 ?_ ?_ | refine bT hb1 ?_ ?_ | refine bT hbr ?_ ?_ | refine bT hb ?_ ?_) | (simp; done) | (simp; omega) | omega))).trans (hb.mono (by omega))
      have hKw : KeysAt S wr (.slice p1 nq c1) o.keys := HKW.out.1.kept (fun b h => hbw.block b (HRW.out.2.2 b h))
      obtain ⟨b1, f1, rfl⟩ : ∃ b off, p1 = some ⟨b, off, none⟩ := by
        rcases hKw with ⟨e, _⟩ | ⟨b, off, c, e, _⟩
        · have := HNQ.out; rw [e] at this; simp at this; omega
        · cases e; exact ⟨_, _, rfl⟩
      obtain ⟨s1, g1⟩ := key_at hKw HNQ.out k hlt
      have hkl : k < o.keys.length := by rw [HNQ.out]; exact hlt
      have hsum := take_sum_succ (fun k => k.length / 50) o.keys k hkl
      have hbnd := take_sum_le (fun k => k.length / 50) o.keys (k + 1)
      rw [show o.keys[k] = o.keys.getD k [] by simp [List.getD, hkl]] at hsum
      have hxb : (o.keys.getD k []).length ≤ 1048576 := Nat.le_trans (bulk_key (d := d) (by simp [List.getD, hkl])) HB.out
      obtain ⟨x, hx⟩ : ∃ x, o.keys.getD k [] = x := ⟨_, rfl⟩
      rw [hx] at g1 hsum hxb
      have HSU := Lib.hid hsum
      have hsz := size_bulk (d + 1) o
      unfold sizeO at hsz
      have hall : 1 + o.s.length / 50 + ((o.keys.take k).map fun k => k.length / 50).sum + x.length / 50 ≤ 1048576 := by have := HB.out; omega
      obtain ⟨q, hq⟩ : ∃ q, 1 + o.s.length / 50 + ((o.keys.take k).map fun k => k.length / 50).sum = q := ⟨_, rfl⟩
      have HQ := Lib.hid hq
      rw [hq] at hall ⊢
      clear hKw hx hkl hsum hbnd hsz hq
      obtain ⟨b0, b1', b2, b3, b4, b5, bf⟩ := six_of ((hb.block w.heap.size (by omega)).trans (heap_new_at w _ _ rfl))
      go_wp2
      go_roundw
      case rel =>
        refine ⟨k + 1, by omega, by go_num, ?_, (by repeat' (first | (with_reducible first | exact Below.refl _ _ | refine Below.drew ?_ | refine belowDrewN ?_ _ | refine belowIter ?_ ?_ _ _ | refine Below.setCell ?_ ?_ _ | refine Below.alloc ?_ ?_ _ | refine bT hb4 ?_ ?_ | refine bT hb3 ?_ ?_ | refine bT hb2 ?_ ?_ | refine bT hb1 ?_ ?_ | refine bT hbr ?_ ?_ | refine bT hb ?_ ?_) | (simp; done) | (simp; omega) | omega))⟩
        rw [HSU.out, ← Nat.add_assoc, HQ.out]
        go_num
      case measure => simp [intOf]; omega
    · have hszr := hb.size
      simp at hszr
      obtain ⟨b0, b1', b2, b3, b4, b5, bf⟩ := six_of ((hb.block w.heap.size (by omega)).trans (heap_new_at w _ _ rfl))
      have hb1 := hb
      clear hb
      have HKE := Lib.hid (show o.keys.take k = o.keys by rw [show k = o.keys.length by rw [HNQ.out]; omega, List.take_length])
      go_wp2
      clear b0 b1' b2 b3 b4 b5 bf
      go_loopw [3, 29] (fun v i wr => ∃ (k : Nat), k ≤ nk ∧ i = .int .i64 k ∧ v = .int .i64 ((1 + o.s.length / 50 + (o.keys.map fun k => k.length / 50).sum + ((o.kids.take k).map (sizeO d)).sum : Nat) : Int) ∧ Below (w.heap.size + 1) (w.alloc (.cells #[.int .i64 o.kind, .int .i64 o.n, .int .i64 o.g, .string ⟨o.s.toArray⟩, .slice p1 nq c1, .slice p2 nk c2] 26)) wr) (fun _ i _ => nk - (intOf i).toNat)
      case atStart => exact ⟨0, Nat.zero_le _, rfl, by rw [HKE.out]; rfl, hb1⟩
      case round =>
        obtain ⟨k, hk, rfl, rfl, hb⟩ := hrel
        by_cases hlt : k < nk
        ·
          have hbw : Below w.heap.size w wr := (show Below w.heap.size w (w.alloc (.cells #[.int .i64 o.kind, .int .i64 o.n, .int .i64 o.g, .string ⟨o.s.toArray⟩, .slice p1 nq c1, .slice p2 nk c2] 26)) from (by repeat' (first | (with_reducible first | exact Below.refl _ _ | refine Below.drew ?_ | refine belowDrewN ?_ _ | refine belowIter ?_ ?_ _ _ | refine Below.setCell ?_ ?_ _ | refine Below.alloc ?_ ?_ _ | refine bT hb4 ?_ ?_ | refine bT hb3 ?_ ?_ | refine bT hb2 ?_ ?_ | refine bT hb1 ?_ ?_ | refine bT hbr ?_ ?_ | refine bT hb ?_ ?_) | (simp; done) | (simp; omega) | omega))).trans (hb.mono (by omega))
          have hRw : RowAt S d wr (.slice p2 nk c2) o.kids := HRW.out.1.kept (fun b h => hbw.block b (HRW.out.2.2 b h))
          obtain ⟨b, off, rfl⟩ : ∃ b off, p2 = some ⟨b, off, none⟩ := by
            rcases hRw with ⟨e, _⟩ | ⟨b, off, c, e, _⟩
            · have := HNK.out; rw [e] at this; simp at this; omega
            · cases e; exact ⟨_, _, rfl⟩
          obtain ⟨x, p3, n3, e3, p4, n4, e4, hx, hxm, s1, O1, f0, f1, f2, f3, f4, f5⟩ := row_kid hRw HNK.out k hlt
          have hS2 : ∀ b, S b → b < wr.heap.size := fun b h => Nat.lt_of_lt_of_le (HRW.out.2.2 b h) hbw.size
          have HI := Lib.hid (fun (W : World) (hW : Below wr.heap.size wr W) => IH W _ x (O1.kept (fun b h => hW.block b (hS2 b h)) d) (HRW.out.2.1 x hxm) (fun b h => Nat.lt_of_lt_of_le (hS2 b h) hW.size) (Nat.le_trans (bulk_kid hxm) HB.out))
          unfold objCells at HI
          have hkl : k < o.kids.length := by rw [HNK.out]; exact hlt
          have hsum := take_sum_succ (sizeO d) o.kids k hkl
          have hbnd := take_sum_le (sizeO d) o.kids (k + 1)
          have hxk : o.kids[k] = x := by rw [← hx]; simp [List.getD, hkl]
          rw [hxk] at hsum
          have HSU := Lib.hid hsum
          have hsz := size_bulk (d + 1) o
          unfold sizeO at hsz
          have hall : 1 + o.s.length / 50 + (o.keys.map fun k => k.length / 50).sum + ((o.kids.take k).map (sizeO d)).sum + sizeO d x ≤ 1048576 := by have := HB.out; omega
          obtain ⟨q, hq⟩ : ∃ q, 1 + o.s.length / 50 + (o.keys.map fun k => k.length / 50).sum + ((o.kids.take k).map (sizeO d)).sum = q := ⟨_, rfl⟩
          have HQ := Lib.hid hq
          rw [hq] at hall ⊢
          obtain ⟨z, hz⟩ : ∃ z, sizeO d x = z := ⟨_, rfl⟩
          have HZ := Lib.hid hz
          rw [hz] at HI hall
          have L1 := hS2 b s1
          have hszr := hb.size
          simp at hszr
          obtain ⟨b0, b1', b2, b3, b4, b5, bf⟩ := six_of ((hb.block w.heap.size (by omega)).trans (heap_new_at w _ _ rfl))
          clear hRw hx hxm O1 hS2 hkl hsum hbnd hxk hsz hq hz
          go_wp2_with fail
          refine (HI.out _ (by repeat' (first | (with_reducible first | exact Below.refl _ _ | refine Below.drew ?_ | refine belowDrewN ?_ _ | refine belowIter ?_ ?_ _ _ | refine Below.setCell ?_ ?_ _ | refine Below.alloc ?_ ?_ _ | refine bT hb4 ?_ ?_ | refine bT hb3 ?_ ?_ | refine bT hb2 ?_ ?_ | refine bT hb1 ?_ ?_ | refine bT hbr ?_ ?_ | refine bT hb ?_ ?_) | (simp; done) | (simp; omega) | omega))).mono ?_
          rintro e w4 ⟨rfl, hb4⟩
          go_wp2
          go_roundw
          case rel =>
            refine ⟨k + 1, by omega, by go_num, ?_, (by repeat' (first | (with_reducible first | exact Below.refl _ _ | refine Below.drew ?_ | refine belowDrewN ?_ _ | refine belowIter ?_ ?_ _ _ | refine Below.setCell ?_ ?_ _ | refine Below.alloc ?_ ?_ _ | refine bT hb4 ?_ ?_ | refine bT hb3 ?_ ?_ | refine bT hb2 ?_ ?_ | refine bT hb1 ?_ ?_ | refine bT hbr ?_ ?_ | refine bT hb ?_ ?_) | (simp; done) | (simp; omega) | omega))⟩
            rw [HSU.out, ← Nat.add_assoc, HQ.out, HZ.out]
            go_num
          case measure => simp [intOf]; omega
        · have HKE2 := Lib.hid (show o.kids.take k = o.kids by rw [show k = o.kids.length by rw [HNK.out]; omega, List.take_length])
          go_wp2
          go_ret
          exact ⟨by rw [HKE2.out]; rfl, (by repeat' (first | (with_reducible first | exact Below.refl _ _ | refine Below.drew ?_ | refine belowDrewN ?_ _ | refine belowIter ?_ ?_ _ _ | refine Below.setCell ?_ ?_ _ | refine Below.alloc ?_ ?_ _ | refine bT hb4 ?_ ?_ | refine bT hb3 ?_ ?_ | refine bT hb2 ?_ ?_ | refine bT hb1 ?_ ?_ | refine bT hbr ?_ ?_ | refine bT hb ?_ ?_) | (simp; done) | (simp; omega) | omega))⟩
theorem sizeX_in (S : Nat → Prop) : ∀ d, SizeX S d
  | 0 => fun _ _ _ h => h.elim
  | d + 1 => sizeX_step S d (sizeX_in S d)
/-- No object has more kids than its measure. -/
theorem kids_size {S : Nat → Prop} {d : Nat} {w : World} {cs : List Value} {o : Ob} (h : ObjAt S (d + 1) w cs o) : o.kids.length ≤ sizeO (d + 1) o := by
  obtain ⟨kv, dv, _, _, h3⟩ := h
  have hk : ∀ k ∈ o.kids, 1 ≤ sizeO d k := by
    intro k hk
    rcases h3 with ⟨h3, _⟩ | ⟨b, off, c, _, _, h6⟩
    · rw [h3] at hk; cases hk
    · obtain ⟨i, hi, rfl⟩ := List.mem_iff_getElem.1 hk
      obtain ⟨ks, _, _, g3⟩ := h6 i hi
      cases d with
      | zero => exact g3.elim
      | succ d => unfold sizeO; omega
  have := len_sum hk
  unfold sizeO; omega
set_option maxRecDepth 100000 in
set_option maxHeartbeats 1000000 in
theorem sizeD_in (S : Nat → Prop) (d : Nat) (w : World) (D : Dc) (ip p1 p2 : Option Addr) (n ic n1 c1 n2 c2 : Nat) (hI : ItemsAt S d w (.slice ip n ic) D.items) (hn : D.items.length = n) (hl : n ≤ 1000000) (hsI : ∀ i ∈ D.items, smallO d i.ob)
    (hO : ObjAt S d w (objCells D.trail.kind D.trail.n D.trail.g D.trail.s (.slice p1 n1 c1) (.slice p2 n2 c2)) D.trail) (hsT : smallO d D.trail) (hS : ∀ b, S b → b < w.heap.size) (hbk : bulkD d D ≤ 1048576) :
    Calls Tryz.prog 6 #[.agg #[.slice ip n ic, .int .i64 D.trail.kind, .int .i64 D.trail.n, .int .i64 D.trail.g, .string ⟨D.trail.s.toArray⟩, .slice p1 n1 c1, .slice p2 n2 c2]] w fun e w' => e = .returned (.int .i64 (sizeD d D)) ∧ Below w.heap.size w w' := by
  have hbT : bulkO d D.trail ≤ 1048576 := by unfold bulkD at hbk; omega
  have hszT := size_bulk d D.trail
  have hszI := map_sum_le (l := D.items) (f := fun i => sizeO d i.ob) (g := fun i => bulkO d i.ob) (fun i _ => size_bulk d i.ob)
  have hall : sizeD d D ≤ 1048576 := by unfold bulkD at hbk; unfold sizeD; omega
  have HBK := Lib.hid (fun i (hi : i ∈ D.items) => show bulkO d i.ob ≤ 1048576 from by have := mem_sum_le (fun i : It => bulkO d i.ob) hi; unfold bulkD at hbk; omega)
  have HZ0 := Lib.hid (fun (W : World) (hW : Below w.heap.size w W) => sizeX_in S d W _ D.trail (hO.kept (fun b h => hW.block b (hS b h)) d) hsT (fun b h => Nat.lt_of_lt_of_le (hS b h) hW.size) hbT)
  unfold objCells at HZ0
  obtain ⟨T, hT⟩ : ∃ T, sizeO d D.trail = T := ⟨_, rfl⟩
  have HT := Lib.hid hT
  rw [hT] at HZ0
  have HI := Lib.hid (And.intro hI hn)
  have HS := Lib.hid (And.intro hS hsI)
  have HA := Lib.hid hall
  clear hbk hbT hszT hszI hall hI hn hS hsI hO hsT hT
  go_enter Tryz.func6, Tryz.ntmps6
  go_wp2_with fail
  refine (HZ0.out _ (by repeat' (first | (with_reducible first | exact Below.refl _ _ | refine Below.drew ?_ | refine belowDrewN ?_ _ | refine belowIter ?_ ?_ _ _ | refine Below.setCell ?_ ?_ _ | refine Below.alloc ?_ ?_ _ | refine bT hb4 ?_ ?_ | refine bT hb3 ?_ ?_ | refine bT hb2 ?_ ?_ | refine bT hb1 ?_ ?_ | refine bT hbr ?_ ?_ | refine bT hb ?_ ?_) | (simp; done) | (simp; omega) | omega))).mono ?_
  rintro e w1 ⟨rfl, hb1⟩
  have hz1 := hb1.size
  simp at hz1
  have A1 := (hb1.block _ (by simp)).trans (heap_new_at w (.cells #[.slice ip n ic, .int .i64 D.trail.kind, .int .i64 D.trail.n, .int .i64 D.trail.g, .string ⟨D.trail.s.toArray⟩, .slice p1 n1 c1, .slice p2 n2 c2] 28) _ rfl)
  have hbw1 : Below w.heap.size w w1 := (by repeat' (first | (with_reducible first | exact Below.refl _ _ | refine Below.drew ?_ | refine belowDrewN ?_ _ | refine belowIter ?_ ?_ _ _ | refine Below.setCell ?_ ?_ _ | refine Below.alloc ?_ ?_ _ | refine bT hb4 ?_ ?_ | refine bT hb3 ?_ ?_ | refine bT hb2 ?_ ?_ | refine bT hb1 ?_ ?_ | refine bT hbr ?_ ?_ | refine bT hb ?_ ?_) | (simp; done) | (simp; omega) | omega))
  have s0 : w1.cell? ⟨w.heap.size, 0, none⟩ = some (.slice ip n ic) := by simp [World.cell?, A1]
  clear hb1 A1 HZ0
  go_wp2
  clear s0
  go_loopw [3, 12] (fun v i wr => ∃ (k : Nat), k ≤ n ∧ i = .int .i64 k ∧ v = .int .i64 ((T + ((D.items.take k).map fun i => sizeO d i.ob).sum : Nat) : Int) ∧ Below w.heap.size w wr) (fun _ i _ => n - (intOf i).toNat)
  case atStart => exact ⟨0, Nat.zero_le _, rfl, by simp, hbw1⟩
  case round =>
    obtain ⟨k, hk, rfl, rfl, hbr⟩ := hrel
    have hzr := hbr.size
    by_cases hlk : k < n
    · have hvr : ItemsAt S d wr (.slice ip n ic) D.items := HI.out.1.kept (fun b h => hbr.block b (HS.out.1 b h))
      obtain ⟨b, off, rfl⟩ := hvr.addr HI.out.2 k hlk
      obtain ⟨i, y1, t1, x1, y2, t2, x2, hi, hsb, O1, e0, e1, e2, e3, e4, e5, e6, e7⟩ := item_kid hvr HI.out.2 k hlk
      have him := List.mem_of_getElem? hi
      have hblt : b < wr.heap.size := Nat.lt_of_lt_of_le (HS.out.1 b hsb) hzr
      have hbne : ¬ b = wr.heap.size := by omega
      have HC := Lib.hid (fun (W : World) (hW : Below wr.heap.size wr W) => sizeX_in S d W _ i.ob (O1.kept (fun b h => hW.block b (Nat.lt_of_lt_of_le (HS.out.1 b h) hzr)) d) (HS.out.2 i him) (fun b h => Nat.lt_of_lt_of_le (HS.out.1 b h) (Nat.le_trans hzr hW.size)) (HBK.out i him))
      unfold objCells at HC
      have hkl : k < D.items.length := by rw [HI.out.2]; exact hlk
      have hsum := take_sum_succ (fun i : It => sizeO d i.ob) D.items k hkl
      have hbnd := take_sum_le (fun i : It => sizeO d i.ob) D.items (k + 1)
      have hxk : D.items[k] = i := by have := List.getElem?_eq_getElem hkl; rw [hi] at this; exact (Option.some.inj this).symm
      rw [hxk] at hsum
      have HSU := Lib.hid hsum
      have hall : T + ((D.items.take k).map fun i => sizeO d i.ob).sum + sizeO d i.ob ≤ 1048576 := by
        have := HA.out
        unfold sizeD at this
        rw [HT.out] at this
        omega
      obtain ⟨q, hq⟩ : ∃ q, T + ((D.items.take k).map fun i => sizeO d i.ob).sum = q := ⟨_, rfl⟩
      have HQ := Lib.hid hq
      rw [hq] at hall ⊢
      obtain ⟨z, hz⟩ : ∃ z, sizeO d i.ob = z := ⟨_, rfl⟩
      have HZ := Lib.hid hz
      rw [hz] at HC hall
      clear hvr hi hsb O1 him hkl hsum hbnd hxk hq hz
      go_wp2_with fail
      refine (HC.out _ (by repeat' (first | (with_reducible first | exact Below.refl _ _ | refine Below.drew ?_ | refine belowDrewN ?_ _ | refine belowIter ?_ ?_ _ _ | refine Below.setCell ?_ ?_ _ | refine Below.alloc ?_ ?_ _ | refine bT hb4 ?_ ?_ | refine bT hb3 ?_ ?_ | refine bT hb2 ?_ ?_ | refine bT hb1 ?_ ?_ | refine bT hbr ?_ ?_ | refine bT hb ?_ ?_) | (simp; done) | (simp; omega) | omega))).mono ?_
      rintro e w4 ⟨rfl, hb4⟩
      have hbw4 : Below w.heap.size w w4 := hbr.trans ((((Below.refl _ wr).alloc (Nat.le_refl _) (.cells #[.int .i64 i.num, .int .i64 i.gen, .int .i64 i.ob.kind, .int .i64 i.ob.n, .int .i64 i.ob.g, .string ⟨i.ob.s.toArray⟩, .slice y1 t1 x1, .slice y2 t2 x2] 50)).trans (hb4.mono (by simp))).mono hbr.size)
      go_wp2
      go_roundw
      case rel =>
        refine ⟨k + 1, by omega, by go_num, ?_, hbw4⟩
        rw [HSU.out, ← Nat.add_assoc, HQ.out, HZ.out]
        go_num
      case measure => simp [intOf]; omega
    · have HKE := Lib.hid (show T + ((D.items.take k).map fun i => sizeO d i.ob).sum = sizeD d D by rw [show k = D.items.length by rw [HI.out.2]; omega, List.take_length, ← HT.out]; rfl)
      rw [HKE.out]
      go_wp2
      go_ret
      exact ⟨rfl, hbr⟩
end Go.Proofs.YtfgdhcemidlnfaaGreatDoor
