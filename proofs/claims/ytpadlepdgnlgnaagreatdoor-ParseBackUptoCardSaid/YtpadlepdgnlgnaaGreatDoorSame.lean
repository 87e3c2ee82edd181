/- The walks of foliantref05's comparisons: two values that read as one object are the same. -/
import Derived.Test.YtpadlepdgnlgnaaGreatDoorObjAt
import Derived.Test.YtpadlepdgnlgnaaGreatDoorValid
import Derived.BigQuiet
import Derived.Deep.QuietTactic
import Derived.Deep.RegionHeld3
set_option linter.all false
namespace Go.Proofs.YtpadlepdgnlgnaaGreatDoor
open Go.RowKit Fo

/-- No list of an object is longer than the form reads. -/
def smallO : Nat → Ob → Prop
  | 0, _ => False
  | d + 1, o => o.keys.length ≤ 140737488355328 ∧ o.kids.length ≤ 140737488355328 ∧ o.s.length ≤ 140737488355328 ∧ (∀ x ∈ o.keys, x.length ≤ 140737488355328) ∧ ∀ k ∈ o.kids, smallO d k
theorem okO_small : ∀ (d : Nat) (o : Ob), okO d o → smallO d o
  | 0, _, h => h.elim
  | d + 1, o, h => by
    obtain ⟨h1, h2, h3, h4, h5, h6, h7⟩ := h
    have hlo : longB o.kind ≤ 1048576 := by unfold longB; split <;> (try split) <;> omega
    suffices h : o.keys.length ≤ 140737488355328 ∧ ∀ x ∈ o.keys, x.length ≤ 140737488355328 from ⟨h.1, by omega, by omega, h.2, fun k hk => okO_small d k (h7 k hk)⟩
    by_cases hk : o.kind = 7
    · unfold keysB at h6
      rw [if_neg (by omega), if_neg (by omega)] at h6
      simp only [Bool.and_eq_true, beq_iff_eq] at h6
      refine ⟨by omega, fun x hx => ?_⟩
      obtain ⟨i, hi, rfl⟩ := List.mem_iff_getElem.1 hx
      have h8 := List.all_eq_true.1 h6.2 i (List.mem_range.2 hi)
      unfold keyAt at h8
      simp only [Bool.and_eq_true] at h8
      have h9 := h8.1.1.1
      simp only [List.getD_eq_getElem?_getD, List.getElem?_eq_getElem hi, Option.getD_some, nameB, Bool.and_eq_true, decide_eq_true_eq] at h9
      omega
    · have : o.keys = [] := by
        unfold usesB at h1
        by_cases e0 : o.kind = 0
        · rw [if_pos e0] at h1; simp [zeroB] at h1; simp_all
        rw [if_neg e0] at h1
        by_cases e1 : o.kind = 1 ∨ o.kind = 2 ∨ o.kind = 3
        · rw [if_pos e1] at h1; simp [zeroB] at h1; simp_all
        rw [if_neg e1] at h1
        by_cases e2 : o.kind = 4 ∨ o.kind = 5
        · rw [if_pos e2] at h1; simp [zeroB] at h1; simp_all
        rw [if_neg e2] at h1
        by_cases e3 : o.kind = 6
        · rw [if_pos e3] at h1; simp at h1; simp_all
        rw [if_neg e3, if_neg hk] at h1
        by_cases e4 : o.kind = 8
        · rw [if_pos e4] at h1; simp [zeroB] at h1; simp_all
        rw [if_neg e4, if_neg h2] at h1; cases h1
      simp [this]

/-- The row of an object's kids. -/
def RowAt (S : Nat → Prop) (d : Nat) (w : World) (v : Value) (kids : List Ob) : Prop :=
  (kids = [] ∧ ∃ p c, v = .slice p 0 c) ∨
  ∃ b off c, v = .slice (some ⟨b, off, none⟩) kids.length c ∧ S b ∧
    ∀ i (h : i < kids.length), ∃ ks : List Value, ks.length = 6 ∧ (∀ j (hj : j < ks.length), w.cell? ⟨b, off + 6 * i + j, none⟩ = some ks[j]) ∧ ObjAt S d w ks kids[i]
theorem RowAt.kept {S : Nat → Prop} {w w' : World} {d : Nat} {v : Value} {kids : List Ob} (h : RowAt S d w v kids) (hk : ∀ b, S b → w'.heap[b]? = w.heap[b]?) : RowAt S d w' v kids := by
  rcases h with h | ⟨b, off, c, h1, h2, h3⟩
  · exact .inl h
  · refine .inr ⟨b, off, c, h1, h2, fun i hi => ?_⟩
    obtain ⟨ks, g1, g2, g3⟩ := h3 i hi
    exact ⟨ks, g1, fun j hj => (World.cell?_of_block (hk b h2)).trans (g2 j hj), ObjAt.kept hk d g3⟩

theorem ObjAt.grow2 {S S' : Nat → Prop} {w w' : World} {d : Nat} {cs : List Value} {o : Ob} (h : ObjAt S d w cs o)
    (hk : ∀ b, S b → b < w.heap.size → S' b ∧ w'.heap[b]? = w.heap[b]?) : ObjAt S' d w' cs o :=
  (ObjAt.kept (S := fun b => S' b ∧ w'.heap[b]? = w.heap[b]?) (fun b hb => hb.2) d (h.weaken (fun b h1 h2 => hk b h1 h2) d)).weaken (fun b h _ => h.1) d
theorem RowAt.grow {S S' : Nat → Prop} {w w' : World} {d : Nat} {v : Value} {kids : List Ob} (h : RowAt S d w v kids)
    (hk : ∀ b, S b → b < w.heap.size → S' b ∧ w'.heap[b]? = w.heap[b]?) : RowAt S' d w' v kids := by
  rcases h with h | ⟨b, off, c, h1, h2, h3⟩
  · exact .inl h
  · by_cases he : kids = []
    · exact .inl ⟨he, _, _, by rw [h1, he]; rfl⟩
    · obtain ⟨ks, g1, g2, _⟩ := h3 0 (List.length_pos_iff.2 he)
      have h0 := g2 0 (by omega)
      have hlt : b < w.heap.size := by
        apply Classical.byContradiction; intro hn
        simp [World.cell?, Array.getElem?_eq_none (Nat.not_lt.1 hn)] at h0
      refine .inr ⟨b, off, c, h1, (hk b h2 hlt).1, fun i hi => ?_⟩
      obtain ⟨ks, g1, g2, g3⟩ := h3 i hi
      exact ⟨ks, g1, fun j hj => (World.cell?_of_block (hk b h2 hlt).2).trans (g2 j hj), g3.grow2 hk⟩
set_option maxHeartbeats 400000 in
theorem texts_nil (p1 p2 : Option Addr) (c1 c2 : Nat) (w : World) :
    Calls Tryz.prog 28 #[.slice p1 0 c1, .slice p2 0 c2] w fun e w' => e = .returned (.bool true) ∧ Below w.heap.size w w' := by
  go_enter Tryz.func28, Tryz.ntmps28
  go_wp2
  refine wp_loop_rounds 1 ?_
  rw [rounds_succ]
  go_wp2
  go_ret
  exact ⟨rfl, (by repeat' (first | (with_reducible exact Below.refl _ _) | (with_reducible refine Below.drew ?_) | (with_reducible refine belowDrewN ?_ _) | (with_reducible refine belowIter ?_ ?_ _ _) | (with_reducible refine Below.setCell ?_ ?_ _) | (with_reducible refine Below.alloc ?_ ?_ _) | (with_reducible refine Below.trans ?_ (Below.mono hb4 ?_)) | (with_reducible refine Below.trans ?_ (Below.mono hb3 ?_)) | (with_reducible refine Below.trans ?_ (Below.mono hb2 ?_)) | (with_reducible refine Below.trans ?_ (Below.mono hb1 ?_)) | (with_reducible refine Below.trans ?_ (Below.mono hbr ?_)) | (with_reducible refine Below.trans ?_ (Below.mono hb ?_)) | (simp; done) | (simp; omega) | omega))⟩
set_option maxHeartbeats 1000000 in
theorem texts_cons (b1 o1 c1 b2 o2 c2 : Nat) (ks : List L) (w : World) (hl : ks.length ≤ 140737488355328)
    (h1 : ∀ i (h : i < ks.length), w.cell? ⟨b1, o1 + i, none⟩ = some (.string ⟨(ks[i]).toArray⟩)) (h2 : ∀ i (h : i < ks.length), w.cell? ⟨b2, o2 + i, none⟩ = some (.string ⟨(ks[i]).toArray⟩))
    (l1 : b1 < w.heap.size) (l2 : b2 < w.heap.size) :
    Calls Tryz.prog 28 #[.slice (some ⟨b1, o1, none⟩) ks.length c1, .slice (some ⟨b2, o2, none⟩) ks.length c2] w fun e w' => e = .returned (.bool true) ∧ Below w.heap.size w w' := by
  obtain ⟨n, hn⟩ : ∃ n, ks.length = n := ⟨_, rfl⟩
  have H1 := Lib.hid h1
  have H2 := Lib.hid h2
  rw [hn] at hl
  rw [hn]
  have HN := Lib.hid hn
  clear h1 h2 hn
  go_enter Tryz.func28, Tryz.ntmps28
  go_wp2
  go_loopw [13] (fun i wr => ∃ k : Nat, k ≤ n ∧ i = .int .i64 k ∧ Below w.heap.size w wr) (fun i _ => n - (intOf i).toNat)
  case atStart => exact ⟨0, Nat.zero_le _, rfl, (by repeat' (first | (with_reducible exact Below.refl _ _) | (with_reducible refine Below.drew ?_) | (with_reducible refine belowDrewN ?_ _) | (with_reducible refine belowIter ?_ ?_ _ _) | (with_reducible refine Below.setCell ?_ ?_ _) | (with_reducible refine Below.alloc ?_ ?_ _) | (with_reducible refine Below.trans ?_ (Below.mono hb4 ?_)) | (with_reducible refine Below.trans ?_ (Below.mono hb3 ?_)) | (with_reducible refine Below.trans ?_ (Below.mono hb2 ?_)) | (with_reducible refine Below.trans ?_ (Below.mono hb1 ?_)) | (with_reducible refine Below.trans ?_ (Below.mono hbr ?_)) | (with_reducible refine Below.trans ?_ (Below.mono hb ?_)) | (simp; done) | (simp; omega) | omega))⟩
  case round =>
    obtain ⟨k, hk, rfl, hb⟩ := hrel
    by_cases hlt : k < n
    · have g1 : wr.cell? ⟨b1, o1 + k, none⟩ = some (.string ⟨(ks.getD k []).toArray⟩) := by
        rw [hb.cell (p := ⟨b1, o1 + k, none⟩) l1, H1.out k (by rw [HN.out]; exact hlt)]; simp [List.getD, HN.out, hlt]
      have g2 : wr.cell? ⟨b2, o2 + k, none⟩ = some (.string ⟨(ks.getD k []).toArray⟩) := by
        rw [hb.cell (p := ⟨b2, o2 + k, none⟩) l2, H2.out k (by rw [HN.out]; exact hlt)]; simp [List.getD, HN.out, hlt]
      obtain ⟨x, hx⟩ : ∃ x, (ks.getD k []).toArray = x := ⟨_, rfl⟩
      rw [hx] at g1 g2
      clear hx
      go_wp2
      go_quiet (fail)
      go_wp2
      go_roundw
      case rel => exact ⟨k + 1, by omega, by go_num, (by repeat' (first | (with_reducible exact Below.refl _ _) | (with_reducible refine Below.drew ?_) | (with_reducible refine belowDrewN ?_ _) | (with_reducible refine belowIter ?_ ?_ _ _) | (with_reducible refine Below.setCell ?_ ?_ _) | (with_reducible refine Below.alloc ?_ ?_ _) | (with_reducible refine Below.trans ?_ (Below.mono hb4 ?_)) | (with_reducible refine Below.trans ?_ (Below.mono hb3 ?_)) | (with_reducible refine Below.trans ?_ (Below.mono hb2 ?_)) | (with_reducible refine Below.trans ?_ (Below.mono hb1 ?_)) | (with_reducible refine Below.trans ?_ (Below.mono hbr ?_)) | (with_reducible refine Below.trans ?_ (Below.mono hb ?_)) | (simp; done) | (simp; omega) | omega))⟩
      case measure => simp [intOf]; omega
    · go_wp2
      go_ret
      exact ⟨rfl, hb⟩
theorem texts_in (S : Nat → Prop) (w : World) (va vb : Value) (ks : List L) (hl : ks.length ≤ 140737488355328) (ha : KeysAt S w va ks) (hb : KeysAt S w vb ks) (hS : ∀ b, S b → b < w.heap.size) :
    Calls Tryz.prog 28 #[va, vb] w fun e w' => e = .returned (.bool true) ∧ Below w.heap.size w w' := by
  rcases ha with ⟨rfl, p, c, rfl⟩ | ⟨b1, o1, c1, rfl, s1, h1⟩
  · rcases hb with ⟨_, p2, c2, rfl⟩ | ⟨b2, o2, c2, rfl, s2, h2⟩
    · exact texts_nil _ _ _ _ w
    · exact texts_nil _ _ _ _ w
  · rcases hb with ⟨rfl, p2, c2, rfl⟩ | ⟨b2, o2, c2, rfl, s2, h2⟩
    · exact texts_nil _ _ _ _ w
    · exact texts_cons _ _ _ _ _ _ ks w hl h1 h2 (hS _ s1) (hS _ s2)

theorem ObjAt.form {S : Nat → Prop} {d : Nat} {w : World} {cs : List Value} {o : Ob} (h : ObjAt S d w cs o) : ∃ p1 n1 c1 p2 n2 c2, cs = objCells o.kind o.n o.g o.s (.slice p1 n1 c1) (.slice p2 n2 c2) := by
  cases d with
  | zero => exact h.elim
  | succ d =>
    obtain ⟨kv, dv, h1, h2, h3⟩ := h
    have a1 : ∃ p n c, kv = .slice p n c := by
      rcases h2 with ⟨_, p, c, h⟩ | ⟨b, o, c, h, _⟩
      · exact ⟨_, _, _, h⟩
      · exact ⟨_, _, _, h⟩
    have a2 : ∃ p n c, dv = .slice p n c := by
      rcases h3 with ⟨_, p, c, h⟩ | ⟨b, o, c, h, _⟩
      · exact ⟨_, _, _, h⟩
      · exact ⟨_, _, _, h⟩
    obtain ⟨p1, n1, c1, rfl⟩ := a1
    obtain ⟨p2, n2, c2, rfl⟩ := a2
    exact ⟨p1, n1, c1, p2, n2, c2, h1⟩
/-- The six cells of a row's k-th kid. -/
theorem row_kid {S : Nat → Prop} {d : Nat} {w : World} {b off n c : Nat} {os : List Ob} (h : RowAt S d w (.slice (some ⟨b, off, none⟩) n c) os) (hn : os.length = n) (k : Nat) (hk : k < n) :
    ∃ (o : Ob) (p1 : Option Addr) (n1 c1 : Nat) (p2 : Option Addr) (n2 c2 : Nat), os.getD k .zero = o ∧ o ∈ os ∧ S b ∧ ObjAt S d w (objCells o.kind o.n o.g o.s (.slice p1 n1 c1) (.slice p2 n2 c2)) o ∧
      w.cell? ⟨b, off + k * 6, none⟩ = some (.int .i64 o.kind) ∧ w.cell? ⟨b, off + k * 6 + 1, none⟩ = some (.int .i64 o.n) ∧ w.cell? ⟨b, off + k * 6 + 2, none⟩ = some (.int .i64 o.g) ∧
      w.cell? ⟨b, off + k * 6 + 3, none⟩ = some (.string ⟨o.s.toArray⟩) ∧ w.cell? ⟨b, off + k * 6 + 4, none⟩ = some (.slice p1 n1 c1) ∧ w.cell? ⟨b, off + k * 6 + 5, none⟩ = some (.slice p2 n2 c2) := by
  rcases h with ⟨rfl, p, c', h1⟩ | ⟨b', off', c', h1, h2, h3⟩
  · simp at hn; omega
  · cases h1
    have hk' : k < os.length := by omega
    obtain ⟨ks, g1, g2, g3⟩ := h3 k hk'
    obtain ⟨p1, n1, c1, p2, n2, c2, rfl⟩ := g3.form
    refine ⟨os[k], p1, n1, c1, p2, n2, c2, by simp [List.getD, hk'], List.getElem_mem hk', h2, g3, ?_⟩
    have e : off + 6 * k = off + k * 6 := by omega
    rw [e] at g2
    exact ⟨g2 0 (by simp [objCells]), g2 1 (by simp [objCells]), g2 2 (by simp [objCells]), g2 3 (by simp [objCells]), g2 4 (by simp [objCells]), g2 5 (by simp [objCells])⟩
theorem six_keep {B b o : Nat} {w w1 : World} {v0 v1 v2 v3 v4 v5 : Value} (hb : Below B w w1) (hl : b < B)
    (h : w.cell? ⟨b, o, none⟩ = some v0 ∧ w.cell? ⟨b, o + 1, none⟩ = some v1 ∧ w.cell? ⟨b, o + 2, none⟩ = some v2 ∧ w.cell? ⟨b, o + 3, none⟩ = some v3 ∧ w.cell? ⟨b, o + 4, none⟩ = some v4 ∧ w.cell? ⟨b, o + 5, none⟩ = some v5) :
    w1.cell? ⟨b, o, none⟩ = some v0 ∧ w1.cell? ⟨b, o + 1, none⟩ = some v1 ∧ w1.cell? ⟨b, o + 2, none⟩ = some v2 ∧ w1.cell? ⟨b, o + 3, none⟩ = some v3 ∧ w1.cell? ⟨b, o + 4, none⟩ = some v4 ∧ w1.cell? ⟨b, o + 5, none⟩ = some v5 := by
  obtain ⟨h0, h1, h2, h3, h4, h5⟩ := h
  refine ⟨?_, ?_, ?_, ?_, ?_, ?_⟩ <;> (refine (hb.cell hl).trans ?_; assumption)
def SameC (S : Nat → Prop) (d : Nat) : Prop := ∀ (w : World) (csa csb : List Value) (o : Ob), ObjAt S d w csa o → ObjAt S d w csb o → smallO d o → (∀ b, S b → b < w.heap.size) →
  Calls Tryz.prog 15 #[.agg csa.toArray, .agg csb.toArray] w fun e w' => e = .returned (.bool true) ∧ Below w.heap.size w w'
set_option maxHeartbeats 400000 in
theorem list_nil (p1 p2 : Option Addr) (c1 c2 : Nat) (w : World) :
    Calls Tryz.prog 29 #[.slice p1 0 c1, .slice p2 0 c2] w fun e w' => e = .returned (.bool true) ∧ Below w.heap.size w w' := by
  go_enter Tryz.func29, Tryz.ntmps29
  go_wp2
  refine wp_loop_rounds 1 ?_
  rw [rounds_succ]
  go_wp2
  go_ret
  exact ⟨rfl, (by repeat' (first | (with_reducible exact Below.refl _ _) | (with_reducible refine Below.drew ?_) | (with_reducible refine belowDrewN ?_ _) | (with_reducible refine belowIter ?_ ?_ _ _) | (with_reducible refine Below.setCell ?_ ?_ _) | (with_reducible refine Below.alloc ?_ ?_ _) | (with_reducible refine Below.trans ?_ (Below.mono hb4 ?_)) | (with_reducible refine Below.trans ?_ (Below.mono hb3 ?_)) | (with_reducible refine Below.trans ?_ (Below.mono hb2 ?_)) | (with_reducible refine Below.trans ?_ (Below.mono hb1 ?_)) | (with_reducible refine Below.trans ?_ (Below.mono hbr ?_)) | (with_reducible refine Below.trans ?_ (Below.mono hb ?_)) | (simp; done) | (simp; omega) | omega))⟩
set_option maxHeartbeats 1000000 in
theorem list_cons (S : Nat → Prop) (d : Nat) (HC : SameC S d) (b1 o1 c1 b2 o2 c2 : Nat) (os : List Ob) (w : World) (hl : os.length ≤ 140737488355328) (hsm : ∀ o ∈ os, smallO d o)
    (h1 : RowAt S d w (.slice (some ⟨b1, o1, none⟩) os.length c1) os) (h2 : RowAt S d w (.slice (some ⟨b2, o2, none⟩) os.length c2) os) (hS : ∀ b, S b → b < w.heap.size) :
    Calls Tryz.prog 29 #[.slice (some ⟨b1, o1, none⟩) os.length c1, .slice (some ⟨b2, o2, none⟩) os.length c2] w fun e w' => e = .returned (.bool true) ∧ Below w.heap.size w w' := by
  obtain ⟨n, hn⟩ : ∃ n, os.length = n := ⟨_, rfl⟩
  have HH := Lib.hid HC
  have HM := Lib.hid hsm
  have H1 := Lib.hid h1
  have H2 := Lib.hid h2
  have HS := Lib.hid hS
  rw [hn] at hl
  rw [hn]
  have HN := Lib.hid hn
  clear h1 h2 hn hS hsm HC
  go_enter Tryz.func29, Tryz.ntmps29
  go_wp2
  go_loopw [13] (fun i wr => ∃ k : Nat, k ≤ n ∧ i = .int .i64 k ∧ Below w.heap.size w wr) (fun i _ => n - (intOf i).toNat)
  case atStart => exact ⟨0, Nat.zero_le _, rfl, (by repeat' (first | (with_reducible exact Below.refl _ _) | (with_reducible refine Below.drew ?_) | (with_reducible refine belowDrewN ?_ _) | (with_reducible refine belowIter ?_ ?_ _ _) | (with_reducible refine Below.setCell ?_ ?_ _) | (with_reducible refine Below.alloc ?_ ?_ _) | (with_reducible refine Below.trans ?_ (Below.mono hb4 ?_)) | (with_reducible refine Below.trans ?_ (Below.mono hb3 ?_)) | (with_reducible refine Below.trans ?_ (Below.mono hb2 ?_)) | (with_reducible refine Below.trans ?_ (Below.mono hb1 ?_)) | (with_reducible refine Below.trans ?_ (Below.mono hbr ?_)) | (with_reducible refine Below.trans ?_ (Below.mono hb ?_)) | (simp; done) | (simp; omega) | omega))⟩
  case round =>
    obtain ⟨k, hk, rfl, hb⟩ := hrel
    by_cases hlt : k < n
    · obtain ⟨x, p1, n1, e1, p2, n2, e2, hx, hxm, s1, O1, f0, f1, f2, f3, f4, f5⟩ := row_kid (H1.out.kept (fun b h => hb.block b (HS.out b h))) rfl k (by rw [HN.out]; exact hlt)
      obtain ⟨x', p3, n3, e3, p4, n4, e4, hx', _, s2, O2, g0, g1, g2, g3, g4, g5⟩ := row_kid (H2.out.kept (fun b h => hb.block b (HS.out b h))) rfl k (by rw [HN.out]; exact hlt)
      obtain rfl : x = x' := hx.symm.trans hx'
      have hS2 : ∀ b, S b → b < wr.heap.size := fun b h => Nat.lt_of_lt_of_le (HS.out b h) hb.size
      have HX := Lib.hid (fun (W : World) (hW : Below wr.heap.size wr W) => HH.out W _ _ x (O1.kept (fun b h => hW.block b (hS2 b h)) d) (O2.kept (fun b h => hW.block b (hS2 b h)) d) (HM.out x hxm) (fun b h => Nat.lt_of_lt_of_le (hS2 b h) hW.size))
      unfold objCells at HX
      have L1 : b1 < wr.heap.size := hS2 _ s1
      have L2 : b2 < wr.heap.size := hS2 _ s2
      clear hx hx' O1 O2 hS2 hxm
      go_wp2
      go_region_held3 (fun w' => w'.cell? ⟨b1, o1 + k * 6, none⟩ = some (.int .i64 x.kind) ∧ w'.cell? ⟨b1, o1 + k * 6 + 1, none⟩ = some (.int .i64 x.n) ∧ w'.cell? ⟨b1, o1 + k * 6 + 2, none⟩ = some (.int .i64 x.g) ∧ w'.cell? ⟨b1, o1 + k * 6 + 3, none⟩ = some (.string ⟨x.s.toArray⟩) ∧ w'.cell? ⟨b1, o1 + k * 6 + 4, none⟩ = some (.slice p1 n1 e1) ∧ w'.cell? ⟨b1, o1 + k * 6 + 5, none⟩ = some (.slice p2 n2 e2) ∧
          w'.cell? ⟨b2, o2 + k * 6, none⟩ = some (.int .i64 x.kind) ∧ w'.cell? ⟨b2, o2 + k * 6 + 1, none⟩ = some (.int .i64 x.n) ∧ w'.cell? ⟨b2, o2 + k * 6 + 2, none⟩ = some (.int .i64 x.g) ∧ w'.cell? ⟨b2, o2 + k * 6 + 3, none⟩ = some (.string ⟨x.s.toArray⟩) ∧ w'.cell? ⟨b2, o2 + k * 6 + 4, none⟩ = some (.slice p3 n3 e3) ∧ w'.cell? ⟨b2, o2 + k * 6 + 5, none⟩ = some (.slice p4 n4 e4)) (go_keep)
        ((go_at_call 15; refine (HX.out _ (by repeat' (first | (with_reducible exact Below.refl _ _) | (with_reducible refine Below.drew ?_) | (with_reducible refine belowDrewN ?_ _) | (with_reducible refine belowIter ?_ ?_ _ _) | (with_reducible refine Below.setCell ?_ ?_ _) | (with_reducible refine Below.alloc ?_ ?_ _) | (with_reducible refine Below.trans ?_ (Below.mono hb4 ?_)) | (with_reducible refine Below.trans ?_ (Below.mono hb3 ?_)) | (with_reducible refine Below.trans ?_ (Below.mono hb2 ?_)) | (with_reducible refine Below.trans ?_ (Below.mono hb1 ?_)) | (with_reducible refine Below.trans ?_ (Below.mono hbr ?_)) | (with_reducible refine Below.trans ?_ (Below.mono hb ?_)) | (simp; done) | (simp; omega) | omega))).mono ?_; rintro e w1 ⟨rfl, hb1⟩; have hbw : Below wr.heap.size wr w1 := (by repeat' (first | (with_reducible exact Below.refl _ _) | (with_reducible refine Below.drew ?_) | (with_reducible refine belowDrewN ?_ _) | (with_reducible refine belowIter ?_ ?_ _ _) | (with_reducible refine Below.setCell ?_ ?_ _) | (with_reducible refine Below.alloc ?_ ?_ _) | (with_reducible refine Below.trans ?_ (Below.mono hb4 ?_)) | (with_reducible refine Below.trans ?_ (Below.mono hb3 ?_)) | (with_reducible refine Below.trans ?_ (Below.mono hb2 ?_)) | (with_reducible refine Below.trans ?_ (Below.mono hb1 ?_)) | (with_reducible refine Below.trans ?_ (Below.mono hbr ?_)) | (with_reducible refine Below.trans ?_ (Below.mono hb ?_)) | (simp; done) | (simp; omega) | omega)); obtain ⟨k0, k1, k2, k3, k4, k5⟩ := six_keep hbw L1 ⟨f0, f1, f2, f3, f4, f5⟩; obtain ⟨l0, l1, l2, l3, l4, l5⟩ := six_keep hbw L2 ⟨g0, g1, g2, g3, g4, g5⟩; clear f0 f1 f2 f3 f4 f5 g0 g1 g2 g3 g4 g5))
      all_goals go_wp2
      all_goals
        go_roundw
        case rel => exact ⟨k + 1, by omega, by go_num, hb.trans (hbw.mono hb.size)⟩
        case measure => simp [intOf]; omega
    · go_wp2
      go_ret
      exact ⟨rfl, hb⟩
theorem list_in (S : Nat → Prop) (d : Nat) (HC : SameC S d) (va vb : Value) (os : List Ob) (w : World) (hl : os.length ≤ 140737488355328) (hsm : ∀ o ∈ os, smallO d o)
    (ha : RowAt S d w va os) (hb : RowAt S d w vb os) (hS : ∀ b, S b → b < w.heap.size) :
    Calls Tryz.prog 29 #[va, vb] w fun e w' => e = .returned (.bool true) ∧ Below w.heap.size w w' := by
  have ha' := ha
  have hb' := hb
  rcases ha with ⟨rfl, p, c, rfl⟩ | ⟨b1, o1, c1, rfl, s1, h1⟩
  · rcases hb with ⟨_, p2, c2, rfl⟩ | ⟨b2, o2, c2, rfl, s2, h2⟩
    · exact list_nil _ _ _ _ w
    · exact list_nil _ _ _ _ w
  · rcases hb with ⟨rfl, p2, c2, rfl⟩ | ⟨b2, o2, c2, rfl, s2, h2⟩
    · exact list_nil _ _ _ _ w
    · exact list_cons S d HC _ _ _ _ _ _ os w hl hsm ha' hb' hS
set_option maxHeartbeats 1000000 in
theorem same_step (S : Nat → Prop) (d : Nat) (HC : SameC S d) : SameC S (d + 1) := by
  intro w csa csb o ha hb hsm hS
  obtain ⟨ka, da, rfl, hka, hda⟩ := ha
  obtain ⟨kb, db, rfl, hkb, hdb⟩ := hb
  obtain ⟨m1, m2, _, _, m3⟩ := hsm
  have HT := Lib.hid (fun (W : World) (hW : Below w.heap.size w W) => texts_in S W ka kb o.keys m1 (hka.kept (fun b h => hW.block b (hS b h))) (hkb.kept (fun b h => hW.block b (hS b h))) (fun b h => Nat.lt_of_lt_of_le (hS b h) hW.size))
  have hda' : RowAt S d w da o.kids := hda
  have hdb' : RowAt S d w db o.kids := hdb
  have HL := Lib.hid (fun (W : World) (hW : Below w.heap.size w W) => list_in S d HC da db o.kids W m2 m3 (hda'.kept (fun b h => hW.block b (hS b h))) (hdb'.kept (fun b h => hW.block b (hS b h))) (fun b h => Nat.lt_of_lt_of_le (hS b h) hW.size))
  have hka' : ∃ p n c, ka = .slice p n c := by
    rcases hka with ⟨_, p, c, h⟩ | ⟨b, o, c, h, _⟩
    · exact ⟨_, _, _, h⟩
    · exact ⟨_, _, _, h⟩
  have hkb' : ∃ p n c, kb = .slice p n c := by
    rcases hkb with ⟨_, p, c, h⟩ | ⟨b, o, c, h, _⟩
    · exact ⟨_, _, _, h⟩
    · exact ⟨_, _, _, h⟩
  have hda'' : ∃ p n c, da = .slice p n c := by
    rcases hda with ⟨_, p, c, h⟩ | ⟨b, o, c, h, _⟩
    · exact ⟨_, _, _, h⟩
    · exact ⟨_, _, _, h⟩
  have hdb'' : ∃ p n c, db = .slice p n c := by
    rcases hdb with ⟨_, p, c, h⟩ | ⟨b, o, c, h, _⟩
    · exact ⟨_, _, _, h⟩
    · exact ⟨_, _, _, h⟩
  obtain ⟨p1, n1, c1, rfl⟩ := hka'
  obtain ⟨p2, n2, c2, rfl⟩ := hkb'
  obtain ⟨p3, n3, c3, rfl⟩ := hda''
  obtain ⟨p4, n4, c4, rfl⟩ := hdb''
  clear hka hkb hda hdb hda' hdb' hS m1 m2 m3 HC
  unfold objCells
  go_enter Tryz.func15, Tryz.ntmps15
  go_wp2_with fail
  refine (HT.out _ (by repeat' (first | (with_reducible exact Below.refl _ _) | (with_reducible refine Below.drew ?_) | (with_reducible refine belowDrewN ?_ _) | (with_reducible refine belowIter ?_ ?_ _ _) | (with_reducible refine Below.setCell ?_ ?_ _) | (with_reducible refine Below.alloc ?_ ?_ _) | (with_reducible refine Below.trans ?_ (Below.mono hb4 ?_)) | (with_reducible refine Below.trans ?_ (Below.mono hb3 ?_)) | (with_reducible refine Below.trans ?_ (Below.mono hb2 ?_)) | (with_reducible refine Below.trans ?_ (Below.mono hb1 ?_)) | (with_reducible refine Below.trans ?_ (Below.mono hbr ?_)) | (with_reducible refine Below.trans ?_ (Below.mono hb ?_)) | (simp; done) | (simp; omega) | omega))).mono ?_
  rintro e w1 ⟨rfl, hb1⟩
  obtain ⟨hc, hf⟩ := bcell hb1
  have hz : w.heap.size + 2 ≤ w1.heap.size := by have := hb1.size; simp at this; omega
  go_wp2_with fail
  refine (HL.out _ (by repeat' (first | (with_reducible exact Below.refl _ _) | (with_reducible refine Below.drew ?_) | (with_reducible refine belowDrewN ?_ _) | (with_reducible refine belowIter ?_ ?_ _ _) | (with_reducible refine Below.setCell ?_ ?_ _) | (with_reducible refine Below.alloc ?_ ?_ _) | (with_reducible refine Below.trans ?_ (Below.mono hb4 ?_)) | (with_reducible refine Below.trans ?_ (Below.mono hb3 ?_)) | (with_reducible refine Below.trans ?_ (Below.mono hb2 ?_)) | (with_reducible refine Below.trans ?_ (Below.mono hb1 ?_)) | (with_reducible refine Below.trans ?_ (Below.mono hbr ?_)) | (with_reducible refine Below.trans ?_ (Below.mono hb ?_)) | (simp; done) | (simp; omega) | omega))).mono ?_
  rintro e w2 ⟨rfl, hb2⟩
  go_wp2
  go_ret
  exact ⟨rfl, (by repeat' (first | (with_reducible exact Below.refl _ _) | (with_reducible refine Below.drew ?_) | (with_reducible refine belowDrewN ?_ _) | (with_reducible refine belowIter ?_ ?_ _ _) | (with_reducible refine Below.setCell ?_ ?_ _) | (with_reducible refine Below.alloc ?_ ?_ _) | (with_reducible refine Below.trans ?_ (Below.mono hb4 ?_)) | (with_reducible refine Below.trans ?_ (Below.mono hb3 ?_)) | (with_reducible refine Below.trans ?_ (Below.mono hb2 ?_)) | (with_reducible refine Below.trans ?_ (Below.mono hb1 ?_)) | (with_reducible refine Below.trans ?_ (Below.mono hbr ?_)) | (with_reducible refine Below.trans ?_ (Below.mono hb ?_)) | (simp; done) | (simp; omega) | omega))⟩
theorem same_in (S : Nat → Prop) : ∀ d, SameC S d
  | 0 => fun _ _ _ _ h => h.elim
  | d + 1 => same_step S d (same_in S d)
end Go.Proofs.YtpadlepdgnlgnaaGreatDoor
