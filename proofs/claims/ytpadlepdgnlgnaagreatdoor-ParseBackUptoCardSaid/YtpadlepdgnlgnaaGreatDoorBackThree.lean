/- An argument of the object's type, opened; the walks of the measures and of the text of an object. -/
import Derived.Test.YtpadlepdgnlgnaaGreatDoorKids
import Derived.Test.YtpadlepdgnlgnaaGreatDoorBackOne
import Derived.Test.YtpadlepdgnlgnaaGreatDoorSame
import Derived.Test.YtpadlepdgnlgnaaGreatDoorRows
import Derived.Deep.Slices
import Derived.ChangeArms
import Derived.Test.YtpadlepdgnlgnaaGreatDoorCheckB
import Derived.Test.YtpadlepdgnlgnaaGreatDoorArray
import Derived.Test.YtpadlepdgnlgnaaGreatDoorBackTwo
import Derived.Deep.RegionHeld3
import Derived.Test.YtpadlepdgnlgnaaGreatDoorCheckC
set_option linter.all false
/- An argument of the object's type, opened: its cells and memory read as an object. -/
namespace Go.Proofs.YtpadlepdgnlgnaaGreatDoor
open Go.RowKit Fo Go.ChangeShapes

theorem list_of_each {α : Type} {p : Nat → α → Prop} (n : Nat) (h : ∀ i, i < n → ∃ o, p i o) : ∃ l : List α, l.length = n ∧ ∀ i (hi : i < l.length), p i l[i] := by
  induction n with
  | zero => exact ⟨[], rfl, fun i hi => absurd hi (by simp)⟩
  | succ n ih =>
    obtain ⟨l, hl, hp⟩ := ih (fun i hi => h i (by omega))
    obtain ⟨o, ho⟩ := h n (by omega)
    refine ⟨l ++ [o], by simp [hl], fun i hi => ?_⟩
    by_cases h1 : i < l.length
    · rw [List.getElem_append_left h1]; exact hp i h1
    · have h2 : i = l.length := by simp at hi; omega
      subst h2
      simp only [List.getElem_concat_length]
      rw [hl]; exact ho
theorem add_none (b o i : Nat) : (⟨b, o, none⟩ : Addr).add i = ⟨b, o + i, none⟩ := by
  cases i <;> simp [Addr.add]
theorem cells_lt {w : World} {b o : Nat} {v : Value} (h : w.cell? ⟨b, o, none⟩ = some v) : b < w.heap.size := by
  apply Classical.byContradiction; intro hn
  simp [World.cell?, Array.getElem?_eq_none (Nat.not_lt.1 hn)] at h
theorem sum_bulk {α H : Type} {f : α → Nat} : ∀ (l : List α) (es : List (DataW H × List MemPlace)), l.length = es.length → (∀ i (h : i < l.length) (z : DataW H × List MemPlace), es[i]? = some z → f l[i] ≤ Rows.uptoBulk z.1) → (l.map f).sum ≤ Rows.uptoBulkAll (es.map (·.1))
  | [], _, _, _ => by simp
  | a :: l, [], h, _ => by simp at h
  | a :: l, e :: es, h, hi => by
    have h1 := hi 0 (by simp) e rfl
    have h2 := sum_bulk l es (by simpa using h) (fun i hi' z hz => hi (i + 1) (by simpa using hi') z (by simpa using hz))
    simp only [List.map_cons, List.sum_cons, Rows.uptoBulkAll]
    simp only [List.getElem_cons_zero] at h1
    omega
set_option maxRecDepth 100000 in
set_option maxHeartbeats 1000000 in
theorem open_obj {H : Type} {enc : TypeId × Value → H} {W : World} {sp : Nat → Bool} {hd : Bool} : ∀ (fuel : Nat) (cs : List Value) (x : DataW H × List MemPlace),
    DataW.trod enc Tryz.prog W 0 sp hd fuel 26 cs = some x → ∃ o : Ob, ObjAt (fun b => b < W.heap.size) fuel W cs o ∧ ∀ e, bulkO e o ≤ Rows.uptoBulk x.1 := by
  intro fuel
  induction fuel using Nat.strongRecOn with
  | _ fuel ih =>
    intro cs x h
    obtain ⟨xs, n, rfl, rfl, hl, hlen, hf⟩ := DataW.trod_struct Tryz.underlying26 h
    have z1 : Tryz.prog.cellsOf 26 = 6 := by kernel_rfl
    have z2 : Tryz.prog.cellsOf 3 = 1 := by kernel_rfl
    have z3 : Tryz.prog.cellsOf 2 = 1 := by kernel_rfl
    have z4 : Tryz.prog.cellsOf 9 = 1 := by kernel_rfl
    have z5 : Tryz.prog.cellsOf 23 = 1 := by kernel_rfl
    have z6 : Tryz.prog.cellsOf 24 = 1 := by kernel_rfl
    rw [z1] at hl
    match cs, hl with
    | [c0, c1, c2, c3, c4, c5], _ =>
      match xs, hlen with
      | [x0, x1, x2, x3, x4, x5], _ =>
        have f0 := hf 0 _ rfl
        have f1 := hf 1 _ rfl
        have f2 := hf 2 _ rfl
        have f3 := hf 3 _ rfl
        have f4 := hf 4 _ rfl
        have f5 := hf 5 _ rfl
        simp only [z2, z3, z4, z5, z6, List.drop_zero, List.drop_succ_cons, List.take_succ_cons, List.take_zero, List.getElem?_cons_zero, List.getElem?_cons_succ] at f0 f1 f2 f3 f4 f5
        obtain ⟨k, e0, _⟩ := DataW.trod_int Tryz.underlying3 f0
        obtain ⟨nn, e1, _⟩ := DataW.trod_int Tryz.underlying2 f1
        obtain ⟨g, e2, _⟩ := DataW.trod_int Tryz.underlying3 f2
        obtain ⟨s, e3, q3⟩ := DataW.trod_string Tryz.underlying9 f3
        cases e0
        cases e1
        cases e2
        cases e3
        have HK : ∃ ks : List L, KeysAt (fun b => b < W.heap.size) W c4 ks ∧ (ks.map (fun k => k.length + 1)).sum ≤ Rows.uptoBulk x4.1 := by
          rcases DataW.trod_slice Tryz.underlying23 f4 with ⟨hc, _⟩ | ⟨a, len, cap, elems, rest, m, rfl, hc, hxe, _, _, _, hel, hx, _⟩
          · cases hc; exact ⟨[], .inl ⟨rfl, _, _, rfl⟩, by simp⟩
          · cases hc
            rw [z4] at hx
            obtain ⟨l, hl, hp⟩ := list_of_each (p := fun i (y : L) => W.cell? (a.add i) = some (.string ⟨y.toArray⟩) ∧ ∀ z, elems[i]? = some z → y.length + 1 ≤ Rows.uptoBulk z.1) len (fun i hi => by
              have h1 := hx i hi
              rw [Nat.mul_one, List.getElem?_eq_getElem (by omega)] at h1
              obtain ⟨cs', h2, h3⟩ := Option.bind_eq_some_iff.1 h1
              obtain ⟨_, hlen', hcell⟩ := World.cells?_some h2
              obtain ⟨y, hy, hyz⟩ := DataW.trod_string Tryz.underlying9 h3
              subst hy
              have := hcell 0 (by omega)
              refine ⟨y.data.toList, ?_, fun z hz => ?_⟩
              · simpa [Addr.add] using this
              · rw [List.getElem?_eq_getElem (by omega)] at hz
                cases hz
                rw [hyz.1]
                simp [Rows.uptoBulk])
            have hsum := sum_bulk (f := fun k => k.length + 1) l elems (by omega) (fun i hi z hz => (hp i hi).2 z hz)
            have hbk : (l.map (fun k => k.length + 1)).sum ≤ Rows.uptoBulk x4.1 := by
              rw [hxe]; simp only [Rows.uptoBulk]; omega
            by_cases h0 : len = 0
            · subst h0; exact ⟨[], .inl ⟨rfl, _, _, rfl⟩, by simp⟩
            · obtain ⟨b, o, spot⟩ := a
              have h00 := (hp 0 (by omega)).1
              have hspot : spot = none := by simpa [Addr.add] using World.cell?_spot h00
              subst hspot
              refine ⟨l, .inr ⟨b, o, cap, by rw [hl], cells_lt (by simpa [Addr.add] using h00), fun i hi => ?_⟩, hbk⟩
              have := (hp i hi).1
              rw [add_none] at this; exact this
        have HD : (∃ p c, c5 = .slice p 0 c) ∨ ∃ (b off c : Nat) (os : List Ob), (∀ e, (os.map (bulkO e)).sum ≤ Rows.uptoBulk x5.1) ∧ c5 = .slice (some ⟨b, off, none⟩) os.length c ∧ b < W.heap.size ∧ os ≠ [] ∧
            ∀ i (h : i < os.length), ∃ ks : List Value, ks.length = 6 ∧ (∀ j (hj : j < ks.length), W.cell? ⟨b, off + 6 * i + j, none⟩ = some ks[j]) ∧ ObjAt (fun b => b < W.heap.size) n W ks os[i] := by
          rcases DataW.trod_slice Tryz.underlying24 f5 with ⟨hc, _⟩ | ⟨a, len, cap, elems, rest, m, rfl, hc, hxe, _, _, _, hel, hx, _⟩
          · cases hc; exact .inl ⟨_, _, rfl⟩
          · cases hc
            rw [z1] at hx
            obtain ⟨l, hl, hp⟩ := list_of_each (p := fun i (o : Ob) => ∃ ks : List Value, ks.length = 6 ∧ (∀ j (hj : j < ks.length), W.cell? ((a.add (i * 6)).add j) = some ks[j]) ∧ ObjAt (fun b => b < W.heap.size) (m + 1) W ks o ∧ ∀ e z, elems[i]? = some z → bulkO e o ≤ Rows.uptoBulk z.1) len (fun i hi => by
              have h1 := hx i hi
              rw [List.getElem?_eq_getElem (by omega)] at h1
              obtain ⟨cs', h2, h3⟩ := Option.bind_eq_some_iff.1 h1
              obtain ⟨_, hlen', hcell⟩ := World.cells?_some h2
              obtain ⟨o, ho, hbo⟩ := ih m (by omega) cs' _ h3
              refine ⟨o, cs', hlen', fun j hj => ?_, ObjAt.up m ho, fun e z hz => ?_⟩
              · rw [hcell j (by omega)]; exact List.getElem?_eq_getElem hj
              · rw [List.getElem?_eq_getElem (by omega)] at hz
                cases hz
                exact hbo e)
            have hbk : ∀ e, (l.map (bulkO e)).sum ≤ Rows.uptoBulk x5.1 := fun e => by
              have hsum := sum_bulk (f := bulkO e) l elems (by omega) (fun i hi z hz => by obtain ⟨_, _, _, _, h⟩ := hp i hi; exact h e z hz)
              rw [hxe]; simp only [Rows.uptoBulk]; omega
            by_cases h0 : len = 0
            · subst h0; exact .inl ⟨_, _, rfl⟩
            · obtain ⟨b, o, spot⟩ := a
              obtain ⟨ks, hk6, hkc, _, _⟩ := hp 0 (by omega)
              have h00 := hkc 0 (by omega)
              have hspot : spot = none := by simpa [Addr.add] using World.cell?_spot h00
              subst hspot
              refine .inr ⟨b, o, cap, l, hbk, by rw [hl], cells_lt (by simpa [Addr.add] using h00), by intro hh; rw [hh] at hl; simp at hl; omega, fun i hi => ?_⟩
              obtain ⟨ks, g1, g2, g3, _⟩ := hp i hi
              refine ⟨ks, g1, fun j hj => ?_, g3⟩
              have := g2 j hj
              rw [add_none, add_none] at this
              rw [Nat.mul_comm 6 i]
              exact this
        obtain ⟨ks, hks, hkb⟩ := HK
        have q3' : Rows.uptoBulk x3.1 = s.data.toList.length + 1 := by rw [q3.1]; simp [Rows.uptoBulk]
        rcases HD with ⟨p, c, rfl⟩ | ⟨b, off, c, os, hob, rfl, hb, hne, hos⟩
        · refine ⟨.mk k nn g s.data.toList ks [], ⟨c4, .slice p 0 c, by simp [objCells, Ob.kind, Ob.n, Ob.g, Ob.s], hks, .inl ⟨rfl, _, _, rfl⟩⟩, fun e => ?_⟩
          cases e with
          | zero => exact Nat.zero_le _
          | succ e =>
            simp only [bulkO, Ob.s, Ob.keys, Ob.kids, List.map_cons, List.map_nil, List.sum_nil, Rows.uptoBulk, Rows.uptoBulkAll]
            omega
        · refine ⟨.mk k nn g s.data.toList ks os, ⟨c4, _, by simp [objCells, Ob.kind, Ob.n, Ob.g, Ob.s]; rfl, hks, .inr ⟨b, off, c, rfl, hb, hos⟩⟩, fun e => ?_⟩
          cases e with
          | zero => exact Nat.zero_le _
          | succ e =>
            have := hob e
            simp only [bulkO, Ob.s, Ob.keys, Ob.kids, List.map_cons, List.map_nil, Rows.uptoBulk, Rows.uptoBulkAll]
            omega
/-- What an object of a known bulk is: no list of it is long. -/
theorem small_of {S : Nat → Prop} {W : World} {B : Nat} (hB : B ≤ 140737488355328) : ∀ (d : Nat) (cs : List Value) (o : Ob), ObjAt S d W cs o → (∀ e, bulkO e o ≤ B) → smallO d o
  | 0, _, _, h, _ => h.elim
  | d + 1, cs, o, h, hb => by
    obtain ⟨kv, dv, _, _, h3⟩ := h
    have b1 : o.keys.length ≤ bulkO 1 o := bulk_keys 0 o
    have b2 : o.kids.length ≤ bulkO 2 o := bulk_kids 0 o
    have b3 : o.s.length ≤ bulkO 1 o := bulk_s 0 o
    have := hb 1
    have := hb 2
    refine ⟨by omega, by omega, by omega, fun x hx => ?_, fun k hk => ?_⟩
    · have : x.length ≤ bulkO 1 o := bulk_key (d := 0) hx
      omega
    · rcases h3 with ⟨h3, _⟩ | ⟨b, off, c, _, _, h6⟩
      · rw [h3] at hk; cases hk
      · obtain ⟨i, hi, rfl⟩ := List.mem_iff_getElem.1 hk
        obtain ⟨ks, _, _, g3⟩ := h6 i hi
        exact small_of hB d ks _ g3 (fun e => Nat.le_trans (bulk_kid hk) (hb (e + 1)))
end Go.Proofs.YtpadlepdgnlgnaaGreatDoor
/- The walks of foliantref05's measure of an object and of the law's own: whatever the object, they answer a number and leave all memory as it was. -/
namespace Go.Proofs.YtpadlepdgnlgnaaGreatDoor
open Go.RowKit Fo

def SizeC (S : Nat → Prop) (d : Nat) : Prop := ∀ (w : World) (cs : List Value) (o : Ob), ObjAt S d w cs o → smallO d o → (∀ b, S b → b < w.heap.size) →
  Calls Tryz.prog 17 #[.agg cs.toArray] w fun e w' => (∃ n : Int, e = .returned (.int .i64 n)) ∧ Below w.heap.size w w'
set_option maxHeartbeats 1000000 in
theorem size_step (S : Nat → Prop) (d : Nat) (IH : SizeC S d) : SizeC S (d + 1) := by
  intro w cs o hO hsm hS
  obtain ⟨p1, c1, p2, c2, rfl⟩ := hO.form2
  obtain ⟨kv, dv, hcs, hK0, hR0⟩ := hO
  have hR : RowAt S d w (.slice p2 o.kids.length c2) o.kids := by
    simp [objCells] at hcs; rw [hcs.2]; exact hR0
  have hK : KeysAt S w (.slice p1 o.keys.length c1) o.keys := by
    simp [objCells] at hcs; rw [hcs.1]; exact hK0
  clear hR0 hcs hK0
  obtain ⟨m1, m2, m3, m4, m5⟩ := hsm
  have HRW := Lib.hid (And.intro hR (And.intro m5 hS))
  have HKW := Lib.hid (And.intro hK m4)
  obtain ⟨nk, hnk⟩ : ∃ nk, o.kids.length = nk := ⟨_, rfl⟩
  obtain ⟨nq, hnq⟩ : ∃ nq, o.keys.length = nq := ⟨_, rfl⟩
  have HNK := Lib.hid hnk
  have HNQ := Lib.hid hnq
  rw [hnk] at HRW m2
  rw [hnq] at HKW m1
  unfold objCells
  rw [hnk, hnq]
  have m3' : o.s.length < 9223372036854775807 := by omega
  clear hR hK hS m4 m5 hnk hnq
  go_enter Tryz.func17, Tryz.ntmps17
  go_wp2
  go_loopw [3, 16] (fun v i wr => ∃ (k : Nat) (m : Int), k ≤ nq ∧ i = .int .i64 k ∧ v = .int .i64 m ∧ Below (w.heap.size + 1) (w.alloc (.cells #[.int .i64 o.kind, .int .i64 o.n, .int .i64 o.g, .string ⟨o.s.toArray⟩, .slice p1 nq c1, .slice p2 nk c2] 26)) wr) (fun _ i _ => nq - (intOf i).toNat)
  case atStart => exact ⟨0, _, Nat.zero_le _, rfl, rfl, (by repeat' (first | (with_reducible exact Below.refl _ _) | (with_reducible refine Below.drew ?_) | (with_reducible refine belowDrewN ?_ _) | (with_reducible refine belowIter ?_ ?_ _ _) | (with_reducible refine Below.setCell ?_ ?_ _) | (with_reducible refine Below.alloc ?_ ?_ _) | (with_reducible refine Below.trans ?_ (Below.mono hb4 ?_)) | (with_reducible refine Below.trans ?_ (Below.mono hb3 ?_)) | (with_reducible refine Below.trans ?_ (Below.mono hb2 ?_)) | (with_reducible refine Below.trans ?_ (Below.mono hb1 ?_)) | (with_reducible refine Below.trans ?_ (Below.mono hbr ?_)) | (with_reducible refine Below.trans ?_ (Below.mono hb ?_)) | (simp; done) | (simp; omega) | omega))⟩
  case round =>
    obtain ⟨k, m, hk, rfl, rfl, hb⟩ := hrel
    by_cases hlt : k < nq
    ·
      have hbw : Below w.heap.size w wr := (show Below w.heap.size w (w.alloc (.cells #[.int .i64 o.kind, .int .i64 o.n, .int .i64 o.g, .string ⟨o.s.toArray⟩, .slice p1 nq c1, .slice p2 nk c2] 26)) from (by repeat' (first | (with_reducible exact Below.refl _ _) | (with_reducible refine Below.drew ?_) | (with_reducible refine belowDrewN ?_ _) | (with_reducible refine belowIter ?_ ?_ _ _) | (with_reducible refine Below.setCell ?_ ?_ _) | (with_reducible refine Below.alloc ?_ ?_ _) | (with_reducible refine Below.trans ?_ (Below.mono hb4 ?_)) | (with_reducible refine Below.trans ?_ (Below.mono hb3 ?_)) | (with_reducible refine Below.trans ?_ (Below.mono hb2 ?_)) | (with_reducible refine Below.trans ?_ (Below.mono hb1 ?_)) | (with_reducible refine Below.trans ?_ (Below.mono hbr ?_)) | (with_reducible refine Below.trans ?_ (Below.mono hb ?_)) | (simp; done) | (simp; omega) | omega))).trans (hb.mono (by omega))
      have hKw : KeysAt S wr (.slice p1 nq c1) o.keys := HKW.out.1.kept (fun b h => hbw.block b (HRW.out.2.2 b h))
      obtain ⟨b1, f1, rfl⟩ : ∃ b off, p1 = some ⟨b, off, none⟩ := by
        rcases hKw with ⟨e, _⟩ | ⟨b, off, c, e, _⟩
        · have := HNQ.out; rw [e] at this; simp at this; omega
        · cases e; exact ⟨_, _, rfl⟩
      obtain ⟨s1, g1⟩ := key_at hKw HNQ.out k hlt
      obtain ⟨x, hx⟩ : ∃ x, o.keys.getD k [] = x := ⟨_, rfl⟩
      rw [hx] at g1
      have hxm : x.length ≤ 140737488355328 := by
        rw [← hx]; exact HKW.out.2 _ (by have : k < o.keys.length := by rw [HNQ.out]; exact hlt
                                         simp [List.getD, this])
      clear hKw hx
      obtain ⟨b0, b1', b2, b3, b4, b5, bf⟩ := six_of ((hb.block w.heap.size (by omega)).trans (heap_new_at w _ _ rfl))
      go_wp2
      go_roundw
      case rel => exact ⟨k + 1, _, by omega, by go_num, rfl, (by repeat' (first | (with_reducible exact Below.refl _ _) | (with_reducible refine Below.drew ?_) | (with_reducible refine belowDrewN ?_ _) | (with_reducible refine belowIter ?_ ?_ _ _) | (with_reducible refine Below.setCell ?_ ?_ _) | (with_reducible refine Below.alloc ?_ ?_ _) | (with_reducible refine Below.trans ?_ (Below.mono hb4 ?_)) | (with_reducible refine Below.trans ?_ (Below.mono hb3 ?_)) | (with_reducible refine Below.trans ?_ (Below.mono hb2 ?_)) | (with_reducible refine Below.trans ?_ (Below.mono hb1 ?_)) | (with_reducible refine Below.trans ?_ (Below.mono hbr ?_)) | (with_reducible refine Below.trans ?_ (Below.mono hb ?_)) | (simp; done) | (simp; omega) | omega))⟩
      case measure => simp [intOf]; omega
    · have hszr := hb.size
      simp at hszr
      obtain ⟨b0, b1', b2, b3, b4, b5, bf⟩ := six_of ((hb.block w.heap.size (by omega)).trans (heap_new_at w _ _ rfl))
      have hb1 := hb
      clear hb
      go_wp2
      clear b0 b1' b2 b3 b4 b5 bf
      go_loopw [3, 29] (fun v i wr => ∃ (k : Nat) (m : Int), k ≤ nk ∧ i = .int .i64 k ∧ v = .int .i64 m ∧ Below (w.heap.size + 1) (w.alloc (.cells #[.int .i64 o.kind, .int .i64 o.n, .int .i64 o.g, .string ⟨o.s.toArray⟩, .slice p1 nq c1, .slice p2 nk c2] 26)) wr) (fun _ i _ => nk - (intOf i).toNat)
      case atStart => exact ⟨0, _, Nat.zero_le _, rfl, rfl, hb1⟩
      case round =>
        obtain ⟨k, m, hk, rfl, rfl, hb⟩ := hrel
        by_cases hlt : k < nk
        ·
          have hbw : Below w.heap.size w wr := (show Below w.heap.size w (w.alloc (.cells #[.int .i64 o.kind, .int .i64 o.n, .int .i64 o.g, .string ⟨o.s.toArray⟩, .slice p1 nq c1, .slice p2 nk c2] 26)) from (by repeat' (first | (with_reducible exact Below.refl _ _) | (with_reducible refine Below.drew ?_) | (with_reducible refine belowDrewN ?_ _) | (with_reducible refine belowIter ?_ ?_ _ _) | (with_reducible refine Below.setCell ?_ ?_ _) | (with_reducible refine Below.alloc ?_ ?_ _) | (with_reducible refine Below.trans ?_ (Below.mono hb4 ?_)) | (with_reducible refine Below.trans ?_ (Below.mono hb3 ?_)) | (with_reducible refine Below.trans ?_ (Below.mono hb2 ?_)) | (with_reducible refine Below.trans ?_ (Below.mono hb1 ?_)) | (with_reducible refine Below.trans ?_ (Below.mono hbr ?_)) | (with_reducible refine Below.trans ?_ (Below.mono hb ?_)) | (simp; done) | (simp; omega) | omega))).trans (hb.mono (by omega))
          have hRw : RowAt S d wr (.slice p2 nk c2) o.kids := HRW.out.1.kept (fun b h => hbw.block b (HRW.out.2.2 b h))
          obtain ⟨b, off, rfl⟩ : ∃ b off, p2 = some ⟨b, off, none⟩ := by
            rcases hRw with ⟨e, _⟩ | ⟨b, off, c, e, _⟩
            · have := HNK.out; rw [e] at this; simp at this; omega
            · cases e; exact ⟨_, _, rfl⟩
          obtain ⟨x, p3, n3, e3, p4, n4, e4, hx, hxm, s1, O1, f0, f1, f2, f3, f4, f5⟩ := row_kid hRw HNK.out k hlt
          have hS2 : ∀ b, S b → b < wr.heap.size := fun b h => Nat.lt_of_lt_of_le (HRW.out.2.2 b h) hbw.size
          have HI := Lib.hid (fun (W : World) (hW : Below wr.heap.size wr W) => IH W _ x (O1.kept (fun b h => hW.block b (hS2 b h)) d) (HRW.out.2.1 x hxm) (fun b h => Nat.lt_of_lt_of_le (hS2 b h) hW.size))
          unfold objCells at HI
          have L1 := hS2 b s1
          have hszr := hb.size
          simp at hszr
          obtain ⟨b0, b1', b2, b3, b4, b5, bf⟩ := six_of ((hb.block w.heap.size (by omega)).trans (heap_new_at w _ _ rfl))
          clear hRw hx hxm O1 hS2
          go_wp2_with fail
          refine (HI.out _ (by repeat' (first | (with_reducible exact Below.refl _ _) | (with_reducible refine Below.drew ?_) | (with_reducible refine belowDrewN ?_ _) | (with_reducible refine belowIter ?_ ?_ _ _) | (with_reducible refine Below.setCell ?_ ?_ _) | (with_reducible refine Below.alloc ?_ ?_ _) | (with_reducible refine Below.trans ?_ (Below.mono hb4 ?_)) | (with_reducible refine Below.trans ?_ (Below.mono hb3 ?_)) | (with_reducible refine Below.trans ?_ (Below.mono hb2 ?_)) | (with_reducible refine Below.trans ?_ (Below.mono hb1 ?_)) | (with_reducible refine Below.trans ?_ (Below.mono hbr ?_)) | (with_reducible refine Below.trans ?_ (Below.mono hb ?_)) | (simp; done) | (simp; omega) | omega))).mono ?_
          rintro e w4 ⟨⟨y, rfl⟩, hb4⟩
          go_wp2
          go_roundw
          case rel => exact ⟨k + 1, _, by omega, by go_num, rfl, (by repeat' (first | (with_reducible exact Below.refl _ _) | (with_reducible refine Below.drew ?_) | (with_reducible refine belowDrewN ?_ _) | (with_reducible refine belowIter ?_ ?_ _ _) | (with_reducible refine Below.setCell ?_ ?_ _) | (with_reducible refine Below.alloc ?_ ?_ _) | (with_reducible refine Below.trans ?_ (Below.mono hb4 ?_)) | (with_reducible refine Below.trans ?_ (Below.mono hb3 ?_)) | (with_reducible refine Below.trans ?_ (Below.mono hb2 ?_)) | (with_reducible refine Below.trans ?_ (Below.mono hb1 ?_)) | (with_reducible refine Below.trans ?_ (Below.mono hbr ?_)) | (with_reducible refine Below.trans ?_ (Below.mono hb ?_)) | (simp; done) | (simp; omega) | omega))⟩
          case measure => simp [intOf]; omega
        · go_wp2
          go_ret
          exact ⟨⟨_, rfl⟩, (by repeat' (first | (with_reducible exact Below.refl _ _) | (with_reducible refine Below.drew ?_) | (with_reducible refine belowDrewN ?_ _) | (with_reducible refine belowIter ?_ ?_ _ _) | (with_reducible refine Below.setCell ?_ ?_ _) | (with_reducible refine Below.alloc ?_ ?_ _) | (with_reducible refine Below.trans ?_ (Below.mono hb4 ?_)) | (with_reducible refine Below.trans ?_ (Below.mono hb3 ?_)) | (with_reducible refine Below.trans ?_ (Below.mono hb2 ?_)) | (with_reducible refine Below.trans ?_ (Below.mono hb1 ?_)) | (with_reducible refine Below.trans ?_ (Below.mono hbr ?_)) | (with_reducible refine Below.trans ?_ (Below.mono hb ?_)) | (simp; done) | (simp; omega) | omega))⟩
theorem size_in (S : Nat → Prop) : ∀ d, SizeC S d
  | 0 => fun _ _ _ h => h.elim
  | d + 1 => size_step S d (size_in S d)
def BytesC (S : Nat → Prop) (d : Nat) : Prop := ∀ (w : World) (cs : List Value) (o : Ob), ObjAt S d w cs o → smallO d o → (∀ b, S b → b < w.heap.size) →
  Calls Tryz.prog 18 #[.agg cs.toArray] w fun e w' => (∃ n : Int, e = .returned (.int .i64 n)) ∧ Below w.heap.size w w'
set_option maxHeartbeats 1000000 in
theorem bytes_step (S : Nat → Prop) (d : Nat) (IH : BytesC S d) : BytesC S (d + 1) := by
  intro w cs o hO hsm hS
  obtain ⟨p1, c1, p2, c2, rfl⟩ := hO.form2
  obtain ⟨kv, dv, hcs, hK0, hR0⟩ := hO
  have hR : RowAt S d w (.slice p2 o.kids.length c2) o.kids := by
    simp [objCells] at hcs; rw [hcs.2]; exact hR0
  have hK : KeysAt S w (.slice p1 o.keys.length c1) o.keys := by
    simp [objCells] at hcs; rw [hcs.1]; exact hK0
  clear hR0 hcs hK0
  obtain ⟨m1, m2, m3, m4, m5⟩ := hsm
  have HRW := Lib.hid (And.intro hR (And.intro m5 hS))
  have HKW := Lib.hid (And.intro hK m4)
  obtain ⟨nk, hnk⟩ : ∃ nk, o.kids.length = nk := ⟨_, rfl⟩
  obtain ⟨nq, hnq⟩ : ∃ nq, o.keys.length = nq := ⟨_, rfl⟩
  have HNK := Lib.hid hnk
  have HNQ := Lib.hid hnq
  rw [hnk] at HRW m2
  rw [hnq] at HKW m1
  unfold objCells
  rw [hnk, hnq]
  have m3' : o.s.length < 9223372036854775807 := by omega
  clear hR hK hS m4 m5 hnk hnq
  go_enter Tryz.func18, Tryz.ntmps18
  go_wp2
  go_loopw [3, 4] (fun v i wr => ∃ (k : Nat) (m : Int), k ≤ nq ∧ i = .int .i64 k ∧ v = .int .i64 m ∧ Below (w.heap.size + 1) (w.alloc (.cells #[.int .i64 o.kind, .int .i64 o.n, .int .i64 o.g, .string ⟨o.s.toArray⟩, .slice p1 nq c1, .slice p2 nk c2] 26)) wr) (fun _ i _ => nq - (intOf i).toNat)
  case atStart => exact ⟨0, _, Nat.zero_le _, rfl, rfl, (by repeat' (first | (with_reducible exact Below.refl _ _) | (with_reducible refine Below.drew ?_) | (with_reducible refine belowDrewN ?_ _) | (with_reducible refine belowIter ?_ ?_ _ _) | (with_reducible refine Below.setCell ?_ ?_ _) | (with_reducible refine Below.alloc ?_ ?_ _) | (with_reducible refine Below.trans ?_ (Below.mono hb4 ?_)) | (with_reducible refine Below.trans ?_ (Below.mono hb3 ?_)) | (with_reducible refine Below.trans ?_ (Below.mono hb2 ?_)) | (with_reducible refine Below.trans ?_ (Below.mono hb1 ?_)) | (with_reducible refine Below.trans ?_ (Below.mono hbr ?_)) | (with_reducible refine Below.trans ?_ (Below.mono hb ?_)) | (simp; done) | (simp; omega) | omega))⟩
  case round =>
    obtain ⟨k, m, hk, rfl, rfl, hb⟩ := hrel
    by_cases hlt : k < nq
    ·
      have hbw : Below w.heap.size w wr := (show Below w.heap.size w (w.alloc (.cells #[.int .i64 o.kind, .int .i64 o.n, .int .i64 o.g, .string ⟨o.s.toArray⟩, .slice p1 nq c1, .slice p2 nk c2] 26)) from (by repeat' (first | (with_reducible exact Below.refl _ _) | (with_reducible refine Below.drew ?_) | (with_reducible refine belowDrewN ?_ _) | (with_reducible refine belowIter ?_ ?_ _ _) | (with_reducible refine Below.setCell ?_ ?_ _) | (with_reducible refine Below.alloc ?_ ?_ _) | (with_reducible refine Below.trans ?_ (Below.mono hb4 ?_)) | (with_reducible refine Below.trans ?_ (Below.mono hb3 ?_)) | (with_reducible refine Below.trans ?_ (Below.mono hb2 ?_)) | (with_reducible refine Below.trans ?_ (Below.mono hb1 ?_)) | (with_reducible refine Below.trans ?_ (Below.mono hbr ?_)) | (with_reducible refine Below.trans ?_ (Below.mono hb ?_)) | (simp; done) | (simp; omega) | omega))).trans (hb.mono (by omega))
      have hKw : KeysAt S wr (.slice p1 nq c1) o.keys := HKW.out.1.kept (fun b h => hbw.block b (HRW.out.2.2 b h))
      obtain ⟨b1, f1, rfl⟩ : ∃ b off, p1 = some ⟨b, off, none⟩ := by
        rcases hKw with ⟨e, _⟩ | ⟨b, off, c, e, _⟩
        · have := HNQ.out; rw [e] at this; simp at this; omega
        · cases e; exact ⟨_, _, rfl⟩
      obtain ⟨s1, g1⟩ := key_at hKw HNQ.out k hlt
      obtain ⟨x, hx⟩ : ∃ x, o.keys.getD k [] = x := ⟨_, rfl⟩
      rw [hx] at g1
      have hxm : x.length ≤ 140737488355328 := by
        rw [← hx]; exact HKW.out.2 _ (by have : k < o.keys.length := by rw [HNQ.out]; exact hlt
                                         simp [List.getD, this])
      clear hKw hx
      obtain ⟨b0, b1', b2, b3, b4, b5, bf⟩ := six_of ((hb.block w.heap.size (by omega)).trans (heap_new_at w _ _ rfl))
      go_wp2
      go_roundw
      case rel => exact ⟨k + 1, _, by omega, by go_num, rfl, (by repeat' (first | (with_reducible exact Below.refl _ _) | (with_reducible refine Below.drew ?_) | (with_reducible refine belowDrewN ?_ _) | (with_reducible refine belowIter ?_ ?_ _ _) | (with_reducible refine Below.setCell ?_ ?_ _) | (with_reducible refine Below.alloc ?_ ?_ _) | (with_reducible refine Below.trans ?_ (Below.mono hb4 ?_)) | (with_reducible refine Below.trans ?_ (Below.mono hb3 ?_)) | (with_reducible refine Below.trans ?_ (Below.mono hb2 ?_)) | (with_reducible refine Below.trans ?_ (Below.mono hb1 ?_)) | (with_reducible refine Below.trans ?_ (Below.mono hbr ?_)) | (with_reducible refine Below.trans ?_ (Below.mono hb ?_)) | (simp; done) | (simp; omega) | omega))⟩
      case measure => simp [intOf]; omega
    ·
      have hszr := hb.size
      simp at hszr
      obtain ⟨b0, b1', b2, b3, b4, b5, bf⟩ := six_of ((hb.block w.heap.size (by omega)).trans (heap_new_at w _ _ rfl))
      have hb1 := hb
      clear hb
      go_wp2
      clear b0 b1' b2 b3 b4 b5 bf
      go_loopw [3, 5] (fun v i wr => ∃ (k : Nat) (m : Int), k ≤ nk ∧ i = .int .i64 k ∧ v = .int .i64 m ∧ Below (w.heap.size + 1) (w.alloc (.cells #[.int .i64 o.kind, .int .i64 o.n, .int .i64 o.g, .string ⟨o.s.toArray⟩, .slice p1 nq c1, .slice p2 nk c2] 26)) wr) (fun _ i _ => nk - (intOf i).toNat)
      case atStart => exact ⟨0, _, Nat.zero_le _, rfl, rfl, hb1⟩
      case round =>
        obtain ⟨k, m, hk, rfl, rfl, hb⟩ := hrel
        by_cases hlt : k < nk
        ·
          have hbw : Below w.heap.size w wr := (show Below w.heap.size w (w.alloc (.cells #[.int .i64 o.kind, .int .i64 o.n, .int .i64 o.g, .string ⟨o.s.toArray⟩, .slice p1 nq c1, .slice p2 nk c2] 26)) from (by repeat' (first | (with_reducible exact Below.refl _ _) | (with_reducible refine Below.drew ?_) | (with_reducible refine belowDrewN ?_ _) | (with_reducible refine belowIter ?_ ?_ _ _) | (with_reducible refine Below.setCell ?_ ?_ _) | (with_reducible refine Below.alloc ?_ ?_ _) | (with_reducible refine Below.trans ?_ (Below.mono hb4 ?_)) | (with_reducible refine Below.trans ?_ (Below.mono hb3 ?_)) | (with_reducible refine Below.trans ?_ (Below.mono hb2 ?_)) | (with_reducible refine Below.trans ?_ (Below.mono hb1 ?_)) | (with_reducible refine Below.trans ?_ (Below.mono hbr ?_)) | (with_reducible refine Below.trans ?_ (Below.mono hb ?_)) | (simp; done) | (simp; omega) | omega))).trans (hb.mono (by omega))
          have hRw : RowAt S d wr (.slice p2 nk c2) o.kids := HRW.out.1.kept (fun b h => hbw.block b (HRW.out.2.2 b h))
          obtain ⟨b, off, rfl⟩ : ∃ b off, p2 = some ⟨b, off, none⟩ := by
            rcases hRw with ⟨e, _⟩ | ⟨b, off, c, e, _⟩
            · have := HNK.out; rw [e] at this; simp at this; omega
            · cases e; exact ⟨_, _, rfl⟩
          obtain ⟨x, p3, n3, e3, p4, n4, e4, hx, hxm, s1, O1, f0, f1, f2, f3, f4, f5⟩ := row_kid hRw HNK.out k hlt
          have hS2 : ∀ b, S b → b < wr.heap.size := fun b h => Nat.lt_of_lt_of_le (HRW.out.2.2 b h) hbw.size
          have HI := Lib.hid (fun (W : World) (hW : Below wr.heap.size wr W) => IH W _ x (O1.kept (fun b h => hW.block b (hS2 b h)) d) (HRW.out.2.1 x hxm) (fun b h => Nat.lt_of_lt_of_le (hS2 b h) hW.size))
          unfold objCells at HI
          have L1 := hS2 b s1
          have hszr := hb.size
          simp at hszr
          obtain ⟨b0, b1', b2, b3, b4, b5, bf⟩ := six_of ((hb.block w.heap.size (by omega)).trans (heap_new_at w _ _ rfl))
          clear hRw hx hxm O1 hS2
          go_wp2_with fail
          refine (HI.out _ (by repeat' (first | (with_reducible exact Below.refl _ _) | (with_reducible refine Below.drew ?_) | (with_reducible refine belowDrewN ?_ _) | (with_reducible refine belowIter ?_ ?_ _ _) | (with_reducible refine Below.setCell ?_ ?_ _) | (with_reducible refine Below.alloc ?_ ?_ _) | (with_reducible refine Below.trans ?_ (Below.mono hb4 ?_)) | (with_reducible refine Below.trans ?_ (Below.mono hb3 ?_)) | (with_reducible refine Below.trans ?_ (Below.mono hb2 ?_)) | (with_reducible refine Below.trans ?_ (Below.mono hb1 ?_)) | (with_reducible refine Below.trans ?_ (Below.mono hbr ?_)) | (with_reducible refine Below.trans ?_ (Below.mono hb ?_)) | (simp; done) | (simp; omega) | omega))).mono ?_
          rintro e w4 ⟨⟨y, rfl⟩, hb4⟩
          go_wp2
          go_roundw
          case rel => exact ⟨k + 1, _, by omega, by go_num, rfl, (by repeat' (first | (with_reducible exact Below.refl _ _) | (with_reducible refine Below.drew ?_) | (with_reducible refine belowDrewN ?_ _) | (with_reducible refine belowIter ?_ ?_ _ _) | (with_reducible refine Below.setCell ?_ ?_ _) | (with_reducible refine Below.alloc ?_ ?_ _) | (with_reducible refine Below.trans ?_ (Below.mono hb4 ?_)) | (with_reducible refine Below.trans ?_ (Below.mono hb3 ?_)) | (with_reducible refine Below.trans ?_ (Below.mono hb2 ?_)) | (with_reducible refine Below.trans ?_ (Below.mono hb1 ?_)) | (with_reducible refine Below.trans ?_ (Below.mono hbr ?_)) | (with_reducible refine Below.trans ?_ (Below.mono hb ?_)) | (simp; done) | (simp; omega) | omega))⟩
          case measure => simp [intOf]; omega
        ·
          have hszr := hb.size
          simp at hszr
          obtain ⟨b0, b1', b2, b3, b4, b5, bf⟩ := six_of ((hb.block w.heap.size (by omega)).trans (heap_new_at w _ _ rfl))
          go_wp2
          go_ret
          exact ⟨⟨_, rfl⟩, (by repeat' (first | (with_reducible exact Below.refl _ _) | (with_reducible refine Below.drew ?_) | (with_reducible refine belowDrewN ?_ _) | (with_reducible refine belowIter ?_ ?_ _ _) | (with_reducible refine Below.setCell ?_ ?_ _) | (with_reducible refine Below.alloc ?_ ?_ _) | (with_reducible refine Below.trans ?_ (Below.mono hb4 ?_)) | (with_reducible refine Below.trans ?_ (Below.mono hb3 ?_)) | (with_reducible refine Below.trans ?_ (Below.mono hb2 ?_)) | (with_reducible refine Below.trans ?_ (Below.mono hb1 ?_)) | (with_reducible refine Below.trans ?_ (Below.mono hbr ?_)) | (with_reducible refine Below.trans ?_ (Below.mono hb ?_)) | (simp; done) | (simp; omega) | omega))⟩
theorem bytes_in (S : Nat → Prop) : ∀ d, BytesC S d
  | 0 => fun _ _ _ h => h.elim
  | d + 1 => bytes_step S d (bytes_in S d)
end Go.Proofs.YtpadlepdgnlgnaaGreatDoor
/- The walk of foliantref06.Text at objects without kids. -/
namespace Go.Proofs.YtpadlepdgnlgnaaGreatDoor
open Go.RowKit Fo

set_option maxHeartbeats 1000000 in
theorem text_null (p1 : Option Addr) (a1 c1 : Nat) (p2 : Option Addr) (a2 c2 : Nat) (n g : Int) (s : ByteArray) (w : World) : Calls Tryz.prog 20 #[.agg #[.int .i64 0, .int .i64 n, .int .i64 g, .string s, .slice p1 a1 c1, .slice p2 a2 c2]] w fun e w' => e = .returned (.string ⟨wNull.toArray⟩) ∧ Below w.heap.size w w' := by
  go_enter Tryz.func20, Tryz.ntmps20
  go_wp2
  go_ret
  exact ⟨rfl, (by repeat' (first | (with_reducible exact Below.refl _ _) | (with_reducible refine Below.drew ?_) | (with_reducible refine belowDrewN ?_ _) | (with_reducible refine belowIter ?_ ?_ _ _) | (with_reducible refine Below.setCell ?_ ?_ _) | (with_reducible refine Below.alloc ?_ ?_ _) | (with_reducible refine Below.trans ?_ (Below.mono hb4 ?_)) | (with_reducible refine Below.trans ?_ (Below.mono hb3 ?_)) | (with_reducible refine Below.trans ?_ (Below.mono hb2 ?_)) | (with_reducible refine Below.trans ?_ (Below.mono hb1 ?_)) | (with_reducible refine Below.trans ?_ (Below.mono hbr ?_)) | (with_reducible refine Below.trans ?_ (Below.mono hb ?_)) | (simp; done) | (simp; omega) | omega))⟩
set_option maxHeartbeats 1000000 in
theorem text_bool (p1 : Option Addr) (a1 c1 : Nat) (p2 : Option Addr) (a2 c2 : Nat) (n g : Int) (s : ByteArray) (w : World) (hn : n = 0 ∨ n = 1) : Calls Tryz.prog 20 #[.agg #[.int .i64 1, .int .i64 n, .int .i64 g, .string s, .slice p1 a1 c1, .slice p2 a2 c2]] w fun e w' => e = .returned (.string ⟨(if n = 1 then wTrue else wFalse).toArray⟩) ∧ Below w.heap.size w w' := by
  rcases hn with rfl | rfl
  · go_enter Tryz.func20, Tryz.ntmps20
    go_wp2
    go_ret
    exact ⟨rfl, (by repeat' (first | (with_reducible exact Below.refl _ _) | (with_reducible refine Below.drew ?_) | (with_reducible refine belowDrewN ?_ _) | (with_reducible refine belowIter ?_ ?_ _ _) | (with_reducible refine Below.setCell ?_ ?_ _) | (with_reducible refine Below.alloc ?_ ?_ _) | (with_reducible refine Below.trans ?_ (Below.mono hb4 ?_)) | (with_reducible refine Below.trans ?_ (Below.mono hb3 ?_)) | (with_reducible refine Below.trans ?_ (Below.mono hb2 ?_)) | (with_reducible refine Below.trans ?_ (Below.mono hb1 ?_)) | (with_reducible refine Below.trans ?_ (Below.mono hbr ?_)) | (with_reducible refine Below.trans ?_ (Below.mono hb ?_)) | (simp; done) | (simp; omega) | omega))⟩
  · go_enter Tryz.func20, Tryz.ntmps20
    go_wp2
    go_ret
    exact ⟨rfl, (by repeat' (first | (with_reducible exact Below.refl _ _) | (with_reducible refine Below.drew ?_) | (with_reducible refine belowDrewN ?_ _) | (with_reducible refine belowIter ?_ ?_ _ _) | (with_reducible refine Below.setCell ?_ ?_ _) | (with_reducible refine Below.alloc ?_ ?_ _) | (with_reducible refine Below.trans ?_ (Below.mono hb4 ?_)) | (with_reducible refine Below.trans ?_ (Below.mono hb3 ?_)) | (with_reducible refine Below.trans ?_ (Below.mono hb2 ?_)) | (with_reducible refine Below.trans ?_ (Below.mono hb1 ?_)) | (with_reducible refine Below.trans ?_ (Below.mono hbr ?_)) | (with_reducible refine Below.trans ?_ (Below.mono hb ?_)) | (simp; done) | (simp; omega) | omega))⟩
set_option maxHeartbeats 1000000 in
theorem text_int (p1 : Option Addr) (a1 c1 : Nat) (p2 : Option Addr) (a2 c2 : Nat) (n g : Int) (s : ByteArray) (w : World) (h1 : -2147483647 ≤ n) (h2 : n ≤ 2147483647) : Calls Tryz.prog 20 #[.agg #[.int .i64 2, .int .i64 n, .int .i64 g, .string s, .slice p1 a1 c1, .slice p2 a2 c2]] w fun e w' => e = .returned (.string ⟨(digI n).toArray⟩) ∧ Below w.heap.size w w' := by
  have HN := Lib.hid (fun W => rdigI n h1 h2 W)
  go_enter Tryz.func20, Tryz.ntmps20
  go_wp2_with fail
  refine (HN.out _).mono ?_
  rintro e w1 ⟨rfl, hb1⟩
  go_wp2
  go_ret
  exact ⟨rfl, (by repeat' (first | (with_reducible exact Below.refl _ _) | (with_reducible refine Below.drew ?_) | (with_reducible refine belowDrewN ?_ _) | (with_reducible refine belowIter ?_ ?_ _ _) | (with_reducible refine Below.setCell ?_ ?_ _) | (with_reducible refine Below.alloc ?_ ?_ _) | (with_reducible refine Below.trans ?_ (Below.mono hb4 ?_)) | (with_reducible refine Below.trans ?_ (Below.mono hb3 ?_)) | (with_reducible refine Below.trans ?_ (Below.mono hb2 ?_)) | (with_reducible refine Below.trans ?_ (Below.mono hb1 ?_)) | (with_reducible refine Below.trans ?_ (Below.mono hbr ?_)) | (with_reducible refine Below.trans ?_ (Below.mono hb ?_)) | (simp; done) | (simp; omega) | omega))⟩
set_option maxHeartbeats 1000000 in
theorem text_real (p1 : Option Addr) (a1 c1 : Nat) (p2 : Option Addr) (a2 c2 : Nat) (n g : Int) (s : ByteArray) (w : World) (h1 : -1073741824 ≤ n) (h2 : n ≤ 1073741824) : Calls Tryz.prog 20 #[.agg #[.int .i64 3, .int .i64 n, .int .i64 g, .string s, .slice p1 a1 c1, .slice p2 a2 c2]] w fun e w' => e = .returned (.string ⟨(realT n).toArray⟩) ∧ Below w.heap.size w w' := by
  have HN := Lib.hid (fun W => rrealT n h1 h2 W)
  go_enter Tryz.func20, Tryz.ntmps20
  go_wp2_with fail
  refine (HN.out _).mono ?_
  rintro e w1 ⟨rfl, hb1⟩
  go_wp2
  go_ret
  exact ⟨rfl, (by repeat' (first | (with_reducible exact Below.refl _ _) | (with_reducible refine Below.drew ?_) | (with_reducible refine belowDrewN ?_ _) | (with_reducible refine belowIter ?_ ?_ _ _) | (with_reducible refine Below.setCell ?_ ?_ _) | (with_reducible refine Below.alloc ?_ ?_ _) | (with_reducible refine Below.trans ?_ (Below.mono hb4 ?_)) | (with_reducible refine Below.trans ?_ (Below.mono hb3 ?_)) | (with_reducible refine Below.trans ?_ (Below.mono hb2 ?_)) | (with_reducible refine Below.trans ?_ (Below.mono hb1 ?_)) | (with_reducible refine Below.trans ?_ (Below.mono hbr ?_)) | (with_reducible refine Below.trans ?_ (Below.mono hb ?_)) | (simp; done) | (simp; omega) | omega))⟩
set_option maxHeartbeats 1000000 in
theorem text_str (p1 : Option Addr) (a1 c1 : Nat) (p2 : Option Addr) (a2 c2 : Nat) (n g : Int) (s : L) (w : World) (hs : s.length ≤ 1048576) : Calls Tryz.prog 20 #[.agg #[.int .i64 4, .int .i64 n, .int .i64 g, .string ⟨s.toArray⟩, .slice p1 a1 c1, .slice p2 a2 c2]] w fun e w' => e = .returned (.string ⟨(40 :: (escS false s ++ [41]) : L).toArray⟩) ∧ Below w.heap.size w w' := by
  have hl := escS_le false s
  have HN := Lib.hid (fun W => resc ⟨s.toArray⟩ false (by show s.length ≤ _; omega) W)
  obtain ⟨E, hE⟩ : ∃ E, escS false s = E := ⟨_, rfl⟩
  rw [show (ByteArray.mk s.toArray).data.toList = s from rfl, hE] at HN
  rw [hE] at hl ⊢
  clear hE
  have y1 : 1 + E.length ≤ 9223372036854775807 := by omega
  have y2 : 1 + E.length + 1 ≤ 9223372036854775807 := by omega
  go_enter Tryz.func20, Tryz.ntmps20
  go_wp2_with fail
  refine (HN.out _).mono ?_
  rintro e w1 ⟨rfl, hb1⟩
  go_wp2
  go_ret
  exact ⟨ret_str (by simp), (by repeat' (first | (with_reducible exact Below.refl _ _) | (with_reducible refine Below.drew ?_) | (with_reducible refine belowDrewN ?_ _) | (with_reducible refine belowIter ?_ ?_ _ _) | (with_reducible refine Below.setCell ?_ ?_ _) | (with_reducible refine Below.alloc ?_ ?_ _) | (with_reducible refine Below.trans ?_ (Below.mono hb4 ?_)) | (with_reducible refine Below.trans ?_ (Below.mono hb3 ?_)) | (with_reducible refine Below.trans ?_ (Below.mono hb2 ?_)) | (with_reducible refine Below.trans ?_ (Below.mono hb1 ?_)) | (with_reducible refine Below.trans ?_ (Below.mono hbr ?_)) | (with_reducible refine Below.trans ?_ (Below.mono hb ?_)) | (simp; done) | (simp; omega) | omega))⟩
set_option maxHeartbeats 1000000 in
theorem text_name (p1 : Option Addr) (a1 c1 : Nat) (p2 : Option Addr) (a2 c2 : Nat) (n g : Int) (s : L) (w : World) (hs : s.length ≤ 1048576) : Calls Tryz.prog 20 #[.agg #[.int .i64 5, .int .i64 n, .int .i64 g, .string ⟨s.toArray⟩, .slice p1 a1 c1, .slice p2 a2 c2]] w fun e w' => e = .returned (.string ⟨(47 :: escS true s : L).toArray⟩) ∧ Below w.heap.size w w' := by
  have hl := escS_le true s
  have HN := Lib.hid (fun W => resc ⟨s.toArray⟩ true (by show s.length ≤ _; omega) W)
  obtain ⟨E, hE⟩ : ∃ E, escS true s = E := ⟨_, rfl⟩
  rw [show (ByteArray.mk s.toArray).data.toList = s from rfl, hE] at HN
  rw [hE] at hl ⊢
  clear hE
  have y1 : 1 + E.length ≤ 9223372036854775807 := by omega
  go_enter Tryz.func20, Tryz.ntmps20
  go_wp2_with fail
  refine (HN.out _).mono ?_
  rintro e w1 ⟨rfl, hb1⟩
  go_wp2
  go_ret
  exact ⟨ret_str (by simp), (by repeat' (first | (with_reducible exact Below.refl _ _) | (with_reducible refine Below.drew ?_) | (with_reducible refine belowDrewN ?_ _) | (with_reducible refine belowIter ?_ ?_ _ _) | (with_reducible refine Below.setCell ?_ ?_ _) | (with_reducible refine Below.alloc ?_ ?_ _) | (with_reducible refine Below.trans ?_ (Below.mono hb4 ?_)) | (with_reducible refine Below.trans ?_ (Below.mono hb3 ?_)) | (with_reducible refine Below.trans ?_ (Below.mono hb2 ?_)) | (with_reducible refine Below.trans ?_ (Below.mono hb1 ?_)) | (with_reducible refine Below.trans ?_ (Below.mono hbr ?_)) | (with_reducible refine Below.trans ?_ (Below.mono hb ?_)) | (simp; done) | (simp; omega) | omega))⟩
set_option maxHeartbeats 2000000 in
theorem text_ref (p1 : Option Addr) (a1 c1 : Nat) (p2 : Option Addr) (a2 c2 : Nat) (n g : Int) (s : ByteArray) (w : World) (h1 : 1 ≤ n) (h2 : n ≤ 8191) (h3 : 0 ≤ g) (h4 : g ≤ 65535) : Calls Tryz.prog 20 #[.agg #[.int .i64 8, .int .i64 n, .int .i64 g, .string s, .slice p1 a1 c1, .slice p2 a2 c2]] w fun e w' => e = .returned (.string ⟨(digI n ++ 32 :: (digI g ++ [32, 82]) : L).toArray⟩) ∧ Below w.heap.size w w' := by
  have HN := Lib.hid (fun W => rdigI n (by omega) (by omega) W)
  have HGG := Lib.hid (fun W => rdigI g (by omega) (by omega) W)
  have l1 := digI_le n (by omega) (by omega)
  have l2 := digI_le g (by omega) (by omega)
  obtain ⟨A, hA⟩ : ∃ A, digI n = A := ⟨_, rfl⟩
  obtain ⟨B, hB⟩ : ∃ B, digI g = B := ⟨_, rfl⟩
  rw [hA] at HN l1 ⊢
  rw [hB] at HGG l2 ⊢
  clear hA hB
  have y1 : ¬ 9223372036854775807 < A.length + 1 := by omega
  have y2 : ¬ 9223372036854775807 < A.length + 1 + B.length := by omega
  have y3 : ¬ 9223372036854775807 < A.length + 1 + B.length + 2 := by omega
  go_enter Tryz.func20, Tryz.ntmps20
  go_upto_region 15 with fail
  have G0 := heap_new_at w (.cells #[.int .i64 8, .int .i64 n, .int .i64 g, .string s, .slice p1 a1 c1, .slice p2 a2 c2] 26 (0, 0)) _ rfl
  have hb : Below w.heap.size w (w.alloc (.cells #[.int .i64 8, .int .i64 n, .int .i64 g, .string s, .slice p1 a1 c1, .slice p2 a2 c2] 26)) := (by repeat' (first | (with_reducible exact Below.refl _ _) | (with_reducible refine Below.drew ?_) | (with_reducible refine belowDrewN ?_ _) | (with_reducible refine belowIter ?_ ?_ _ _) | (with_reducible refine Below.setCell ?_ ?_ _) | (with_reducible refine Below.alloc ?_ ?_ _) | (with_reducible refine Below.trans ?_ (Below.mono hb4 ?_)) | (with_reducible refine Below.trans ?_ (Below.mono hb3 ?_)) | (with_reducible refine Below.trans ?_ (Below.mono hb2 ?_)) | (with_reducible refine Below.trans ?_ (Below.mono hb1 ?_)) | (with_reducible refine Below.trans ?_ (Below.mono hbr ?_)) | (with_reducible refine Below.trans ?_ (Below.mono hb ?_)) | (simp; done) | (simp; omega) | omega))
  have L0 : w.heap.size < (w.alloc (.cells #[.int .i64 8, .int .i64 n, .int .i64 g, .string s, .slice p1 a1 c1, .slice p2 a2 c2] 26)).heap.size := by simp
  obtain ⟨w0, hw0⟩ : ∃ w0, w.alloc (.cells #[.int .i64 8, .int .i64 n, .int .i64 g, .string s, .slice p1 a1 c1, .slice p2 a2 c2] 26) = w0 := ⟨_, rfl⟩
  rw [hw0] at G0 hb L0 ⊢
  have HG0 := Lib.hid G0
  have hbw5 : Below w0.heap.size w0 w0 := Below.refl _ _
  have hz5 := hbw5.size
  obtain ⟨z0, z1, z2, z3, z4, z5, zf⟩ := six_of G0
  clear hw0 G0
  go_region_held3 (fun w' => w'.cell? ⟨w.heap.size, 1, none⟩ = some (.int .i64 n) ∧ w'.cell? ⟨w.heap.size, 2, none⟩ = some (.int .i64 g)) (go_keep)
    (first | (go_at_call 31; with_reducible refine (HN.out _).mono ?_; rintro e w1 ⟨rfl, hb1⟩; have hbw5 : Below w0.heap.size w0 w1 := (by repeat' (first | (with_reducible exact Below.refl _ _) | (with_reducible refine Below.drew ?_) | (with_reducible refine belowDrewN ?_ _) | (with_reducible refine belowIter ?_ ?_ _ _) | (with_reducible refine Below.setCell ?_ ?_ _) | (with_reducible refine Below.alloc ?_ ?_ _) | (with_reducible refine Below.trans ?_ (Below.mono hb4 ?_)) | (with_reducible refine Below.trans ?_ (Below.mono hbw5 ?_)) | (with_reducible refine Below.trans ?_ (Below.mono hb2 ?_)) | (with_reducible refine Below.trans ?_ (Below.mono hb1 ?_)) | (with_reducible refine Below.trans ?_ (Below.mono hbr ?_)) | (with_reducible refine Below.trans ?_ (Below.mono hb ?_)) | (simp; done) | (simp; omega) | omega)); have hz5 := hbw5.size; obtain ⟨k0, k1, k2, k3, k4, k5, kf⟩ := six_of ((hbw5.block _ L0).trans HG0.out)) | (go_at_call 31; with_reducible refine (HGG.out _).mono ?_; rintro e w1 ⟨rfl, hb1⟩; have hbw5 : Below w0.heap.size w0 w1 := (by repeat' (first | (with_reducible exact Below.refl _ _) | (with_reducible refine Below.drew ?_) | (with_reducible refine belowDrewN ?_ _) | (with_reducible refine belowIter ?_ ?_ _ _) | (with_reducible refine Below.setCell ?_ ?_ _) | (with_reducible refine Below.alloc ?_ ?_ _) | (with_reducible refine Below.trans ?_ (Below.mono hb4 ?_)) | (with_reducible refine Below.trans ?_ (Below.mono hbw5 ?_)) | (with_reducible refine Below.trans ?_ (Below.mono hb2 ?_)) | (with_reducible refine Below.trans ?_ (Below.mono hb1 ?_)) | (with_reducible refine Below.trans ?_ (Below.mono hbr ?_)) | (with_reducible refine Below.trans ?_ (Below.mono hb ?_)) | (simp; done) | (simp; omega) | omega)); have hz5 := hbw5.size; obtain ⟨k0, k1, k2, k3, k4, k5, kf⟩ := six_of ((hbw5.block _ L0).trans HG0.out)))
  all_goals go_wp2
  all_goals go_ret
  all_goals exact ⟨ret_str (by simp), (by repeat' (first | (with_reducible exact Below.refl _ _) | (with_reducible refine Below.drew ?_) | (with_reducible refine belowDrewN ?_ _) | (with_reducible refine belowIter ?_ ?_ _ _) | (with_reducible refine Below.setCell ?_ ?_ _) | (with_reducible refine Below.alloc ?_ ?_ _) | (with_reducible refine Below.trans ?_ (Below.mono hb4 ?_)) | (with_reducible refine Below.trans ?_ (Below.mono hbw5 ?_)) | (with_reducible refine Below.trans ?_ (Below.mono hb2 ?_)) | (with_reducible refine Below.trans ?_ (Below.mono hb1 ?_)) | (with_reducible refine Below.trans ?_ (Below.mono hbr ?_)) | (with_reducible refine Below.trans ?_ (Below.mono hb ?_)) | (simp; done) | (simp; omega) | omega))⟩
end Go.Proofs.YtpadlepdgnlgnaaGreatDoor
/- The walk of foliantref06.Text: the text of every valid object. -/
namespace Go.Proofs.YtpadlepdgnlgnaaGreatDoor
open Go.RowKit Fo

theorem kidsT_snoc (n : Nat) (a : List Ob) (x : Ob) : kidsT n (a ++ [x]) = kidsT n a ++ (textO n x ++ [32]) := by simp [kidsT]
theorem kidsT_take (n : Nat) (os : List Ob) (k : Nat) : (kidsT n (os.take k)).length ≤ (kidsT n os).length := by
  have : kidsT n os = kidsT n (os.take k) ++ kidsT n (os.drop k) := by
    unfold kidsT; rw [← List.flatMap_append, List.take_append_drop]
  rw [this]; simp
theorem pairsT_snoc (n : Nat) (a : List (L × Ob)) (p : L × Ob) : pairsT n (a ++ [p]) = pairsT n a ++ (47 :: escS true p.1 ++ 32 :: (textO n p.2 ++ [32])) := by simp [pairsT]
theorem pairsT_take (n : Nat) (ps : List (L × Ob)) (k : Nat) : (pairsT n (ps.take k)).length ≤ (pairsT n ps).length := by
  have : pairsT n ps = pairsT n (ps.take k) ++ pairsT n (ps.drop k) := by
    unfold pairsT; rw [← List.flatMap_append, List.take_append_drop]
  rw [this]; simp
def TextC (S : Nat → Prop) (n : Nat) : Prop := ∀ (d : Nat) (w : World) (cs : List Value) (o : Ob), ObjAt S d w cs o → okO n o → (textO n o).length ≤ 1000000000000 → (∀ b, S b → b < w.heap.size) →
  Calls Tryz.prog 20 #[.agg cs.toArray] w fun e w' => e = .returned (.string ⟨(textO n o).toArray⟩) ∧ Below w.heap.size w w'
set_option maxHeartbeats 1000000 in
theorem text_arr (S : Nat → Prop) (n d : Nat) (IH : TextC S n) (os : List Ob) (m g : Int) (s : ByteArray) (p1 p2 : Option Addr) (a1 c1 c2 : Nat) (w : World) (hR : RowAt S d w (.slice p2 os.length c2) os)
    (hok : ∀ k ∈ os, okO n k) (hl : (kidsT n os).length ≤ 1000000000000) (h8 : os.length ≤ 8191) (hS : ∀ b, S b → b < w.heap.size) :
    Calls Tryz.prog 20 #[.agg #[.int .i64 6, .int .i64 m, .int .i64 g, .string s, .slice p1 a1 c1, .slice p2 os.length c2]] w fun e w' => e = .returned (.string ⟨(91 :: (kidsT n os ++ [93]) : L).toArray⟩) ∧ Below w.heap.size w w' := by
  obtain ⟨T, hT⟩ : ∃ T : L, 91 :: (kidsT n os ++ [93]) = T := ⟨_, rfl⟩
  rw [hT]
  have HT := Lib.hid hT
  obtain ⟨nk, hnk⟩ : ∃ nk, os.length = nk := ⟨_, rfl⟩
  have HNK := Lib.hid hnk
  rw [hnk] at hR h8
  rw [hnk]
  have HRW := Lib.hid (And.intro hR (And.intro hok hS))
  have HL := Lib.hid hl
  clear hT hnk hR hok hS hl
  go_enter Tryz.func20, Tryz.ntmps20
  go_wp2
  go_loopw [3, 4] (fun v i wr => ∃ (k : Nat) (l : L), k ≤ nk ∧ i = .int .i64 k ∧ v = .string ⟨l.toArray⟩ ∧ l.length ≤ 1000000000001 ∧ Below (w.heap.size + 1) (w.alloc (.cells #[.int .i64 6, .int .i64 m, .int .i64 g, .string s, .slice p1 a1 c1, .slice p2 nk c2] 26)) wr ∧ Hid (l = 91 :: kidsT n (os.take k))) (fun _ i _ => nk - (intOf i).toNat)
  case atStart => exact ⟨0, [91], Nat.zero_le _, rfl, rfl, by simp, (by repeat' (first | (with_reducible exact Below.refl _ _) | (with_reducible refine Below.drew ?_) | (with_reducible refine belowDrewN ?_ _) | (with_reducible refine belowIter ?_ ?_ _ _) | (with_reducible refine Below.setCell ?_ ?_ _) | (with_reducible refine Below.alloc ?_ ?_ _) | (with_reducible refine Below.trans ?_ (Below.mono hb4 ?_)) | (with_reducible refine Below.trans ?_ (Below.mono hb3 ?_)) | (with_reducible refine Below.trans ?_ (Below.mono hb2 ?_)) | (with_reducible refine Below.trans ?_ (Below.mono hb1 ?_)) | (with_reducible refine Below.trans ?_ (Below.mono hbr ?_)) | (with_reducible refine Below.trans ?_ (Below.mono hb ?_)) | (simp; done) | (simp; omega) | omega)), Lib.hid rfl⟩
  case round =>
    obtain ⟨k, l, hk, rfl, rfl, hll, hb, HA⟩ := hrel
    by_cases hlt : k < nk
    · have hbw : Below w.heap.size w wr := (show Below w.heap.size w (w.alloc (.cells #[.int .i64 6, .int .i64 m, .int .i64 g, .string s, .slice p1 a1 c1, .slice p2 nk c2] 26)) from (by repeat' (first | (with_reducible exact Below.refl _ _) | (with_reducible refine Below.drew ?_) | (with_reducible refine belowDrewN ?_ _) | (with_reducible refine belowIter ?_ ?_ _ _) | (with_reducible refine Below.setCell ?_ ?_ _) | (with_reducible refine Below.alloc ?_ ?_ _) | (with_reducible refine Below.trans ?_ (Below.mono hb4 ?_)) | (with_reducible refine Below.trans ?_ (Below.mono hb3 ?_)) | (with_reducible refine Below.trans ?_ (Below.mono hb2 ?_)) | (with_reducible refine Below.trans ?_ (Below.mono hb1 ?_)) | (with_reducible refine Below.trans ?_ (Below.mono hbr ?_)) | (with_reducible refine Below.trans ?_ (Below.mono hb ?_)) | (simp; done) | (simp; omega) | omega))).trans (hb.mono (by omega))
      have hRw : RowAt S d wr (.slice p2 nk c2) os := HRW.out.1.kept (fun b h => hbw.block b (HRW.out.2.2 b h))
      obtain ⟨b, off, rfl⟩ : ∃ b off, p2 = some ⟨b, off, none⟩ := by
        rcases hRw with ⟨e, _⟩ | ⟨b, off, c, e, _⟩
        · have := HNK.out; rw [e] at this; simp at this; omega
        · cases e; exact ⟨_, _, rfl⟩
      obtain ⟨x, p3, n3, e3, p4, n4, e4, hx, hxm, s1, O1, f0, f1, f2, f3, f4, f5⟩ := row_kid hRw HNK.out k hlt
      have hS2 : ∀ b, S b → b < wr.heap.size := fun b h => Nat.lt_of_lt_of_le (HRW.out.2.2 b h) hbw.size
      have htk : os.take (k + 1) = os.take k ++ [x] := by
        have hk' : k < os.length := by rw [HNK.out]; exact hlt
        rw [List.take_succ_eq_append_getElem hk', ← hx]; simp [List.getD, hk']
      have hlen := kidsT_take n os (k + 1)
      rw [htk, kidsT_snoc] at hlen
      simp only [List.length_append, List.length_cons, List.length_nil] at hlen
      have hlx : (textO n x).length ≤ 1000000000000 := by have := HL.out; omega
      have hlA : l.length + (textO n x).length + 1 ≤ 1000000000001 := by
        have := HL.out
        rw [HA.out]
        simp only [List.length_cons]
        omega
      have HI := Lib.hid (fun (W : World) (hW : Below wr.heap.size wr W) => IH d W _ x (O1.kept (fun b h => hW.block b (hS2 b h)) d) (HRW.out.2.1 x hxm) hlx (fun b h => Nat.lt_of_lt_of_le (hS2 b h) hW.size))
      unfold objCells at HI
      obtain ⟨X, hX⟩ : ∃ X, textO n x = X := ⟨_, rfl⟩
      rw [hX] at HI hlA
      have HX := Lib.hid (show 91 :: kidsT n (os.take (k + 1)) = l ++ X ++ [32] by rw [htk, kidsT_snoc, HA.out, hX]; simp)
      have L1 := hS2 b s1
      have hszr := hb.size
      simp at hszr
      obtain ⟨b0, b1', b2, b3, b4, b5, bf⟩ := six_of ((hb.block w.heap.size (by omega)).trans (heap_new_at w _ _ rfl))
      have y1 : l.length + X.length ≤ 9223372036854775807 := by omega
      have y2 : l.length + X.length + 1 ≤ 9223372036854775807 := by omega
      clear hRw hx hxm O1 hS2 htk hlen hlx hX
      go_wp2_with fail
      refine (HI.out _ (by repeat' (first | (with_reducible exact Below.refl _ _) | (with_reducible refine Below.drew ?_) | (with_reducible refine belowDrewN ?_ _) | (with_reducible refine belowIter ?_ ?_ _ _) | (with_reducible refine Below.setCell ?_ ?_ _) | (with_reducible refine Below.alloc ?_ ?_ _) | (with_reducible refine Below.trans ?_ (Below.mono hb4 ?_)) | (with_reducible refine Below.trans ?_ (Below.mono hb3 ?_)) | (with_reducible refine Below.trans ?_ (Below.mono hb2 ?_)) | (with_reducible refine Below.trans ?_ (Below.mono hb1 ?_)) | (with_reducible refine Below.trans ?_ (Below.mono hbr ?_)) | (with_reducible refine Below.trans ?_ (Below.mono hb ?_)) | (simp; done) | (simp; omega) | omega))).mono ?_
      rintro e w4 ⟨rfl, hb4⟩
      go_wp2
      go_roundw
      case rel => exact ⟨k + 1, l ++ X ++ [32], by omega, by go_num, val_str (by simp), by simp; omega, (by repeat' (first | (with_reducible exact Below.refl _ _) | (with_reducible refine Below.drew ?_) | (with_reducible refine belowDrewN ?_ _) | (with_reducible refine belowIter ?_ ?_ _ _) | (with_reducible refine Below.setCell ?_ ?_ _) | (with_reducible refine Below.alloc ?_ ?_ _) | (with_reducible refine Below.trans ?_ (Below.mono hb4 ?_)) | (with_reducible refine Below.trans ?_ (Below.mono hb3 ?_)) | (with_reducible refine Below.trans ?_ (Below.mono hb2 ?_)) | (with_reducible refine Below.trans ?_ (Below.mono hb1 ?_)) | (with_reducible refine Below.trans ?_ (Below.mono hbr ?_)) | (with_reducible refine Below.trans ?_ (Below.mono hb ?_)) | (simp; done) | (simp; omega) | omega)), Lib.hid HX.out.symm⟩
      case measure => simp [intOf]; omega
    · have hszr := hb.size
      simp at hszr
      obtain ⟨b0, b1', b2, b3, b4, b5, bf⟩ := six_of ((hb.block w.heap.size (by omega)).trans (heap_new_at w _ _ rfl))
      have HE := Lib.hid (show T = l ++ [93] by
        have hkn : k = nk := by omega
        rw [← HT.out, HA.out, List.take_of_length_le (by rw [HNK.out]; omega)]; simp)
      have y1 : l.length + 1 ≤ 9223372036854775807 := by omega
      go_wp2
      go_ret
      exact ⟨ret_str (by rw [HE.out]; simp), (by repeat' (first | (with_reducible exact Below.refl _ _) | (with_reducible refine Below.drew ?_) | (with_reducible refine belowDrewN ?_ _) | (with_reducible refine belowIter ?_ ?_ _ _) | (with_reducible refine Below.setCell ?_ ?_ _) | (with_reducible refine Below.alloc ?_ ?_ _) | (with_reducible refine Below.trans ?_ (Below.mono hb4 ?_)) | (with_reducible refine Below.trans ?_ (Below.mono hb3 ?_)) | (with_reducible refine Below.trans ?_ (Below.mono hb2 ?_)) | (with_reducible refine Below.trans ?_ (Below.mono hb1 ?_)) | (with_reducible refine Below.trans ?_ (Below.mono hbr ?_)) | (with_reducible refine Below.trans ?_ (Below.mono hb ?_)) | (simp; done) | (simp; omega) | omega))⟩
set_option maxHeartbeats 400000 in
theorem bkey_in (x : L) (w : World) : Calls Tryz.prog 34 #[.string ⟨x.toArray⟩] w fun e w' => e = .returned (.agg #[.int .i64 5, .int .i64 0, .int .i64 0, .string ⟨x.toArray⟩, .slice none 0 0, .slice none 0 0]) ∧ Below w.heap.size w w' := by
  go_enter Tryz.func34, Tryz.ntmps34
  go_wp2
  refine bodyPost_ret (v := .agg #[.int .i64 5, .int .i64 0, .int .i64 0, .string ⟨x.toArray⟩, .slice none 0 0, .slice none 0 0]) (by simp [results, Tryz.results34, go_sem]) rfl ⟨rfl, (by repeat' (first | (with_reducible exact Below.refl _ _) | (with_reducible refine Below.drew ?_) | (with_reducible refine belowDrewN ?_ _) | (with_reducible refine belowIter ?_ ?_ _ _) | (with_reducible refine Below.setCell ?_ ?_ _) | (with_reducible refine Below.alloc ?_ ?_ _) | (with_reducible refine Below.trans ?_ (Below.mono hb4 ?_)) | (with_reducible refine Below.trans ?_ (Below.mono hb3 ?_)) | (with_reducible refine Below.trans ?_ (Below.mono hb2 ?_)) | (with_reducible refine Below.trans ?_ (Below.mono hb1 ?_)) | (with_reducible refine Below.trans ?_ (Below.mono hbr ?_)) | (with_reducible refine Below.trans ?_ (Below.mono hb ?_)) | (simp; done) | (simp; omega) | omega))⟩
set_option maxRecDepth 100000 in
set_option maxHeartbeats 4000000 in
theorem text_dict (S : Nat → Prop) (n d : Nat) (IH : TextC S n) (ks : List L) (os : List Ob) (m g : Int) (s : ByteArray) (p1 p2 : Option Addr) (c1 c2 : Nat) (w : World) (hK : KeysAt S w (.slice p1 ks.length c1) ks) (hR : RowAt S d w (.slice p2 os.length c2) os)
    (hok : ∀ k ∈ os, okO n k) (hks : ∀ k ∈ ks, k.length ≤ 127) (he : ks.length = os.length) (hl : (pairsT n (ks.zip os)).length ≤ 1000000000000) (h8 : os.length ≤ 8191) (hS : ∀ b, S b → b < w.heap.size) :
    Calls Tryz.prog 20 #[.agg #[.int .i64 7, .int .i64 m, .int .i64 g, .string s, .slice p1 ks.length c1, .slice p2 os.length c2]] w fun e w' => e = .returned (.string ⟨(60 :: 60 :: (pairsT n (ks.zip os) ++ [62, 62]) : L).toArray⟩) ∧ Below w.heap.size w w' := by
  obtain ⟨T, hT⟩ : ∃ T : L, 60 :: 60 :: (pairsT n (ks.zip os) ++ [62, 62]) = T := ⟨_, rfl⟩
  rw [hT]
  have HT := Lib.hid hT
  obtain ⟨nk, hnk⟩ : ∃ nk, os.length = nk := ⟨_, rfl⟩
  have HNK := Lib.hid hnk
  have HNQ := Lib.hid (he.trans hnk)
  rw [hnk] at hR h8
  rw [he, hnk] at hK
  rw [he, hnk]
  have HRW := Lib.hid (And.intro hR (And.intro hok hS))
  have HKW := Lib.hid (And.intro hK hks)
  have HL := Lib.hid hl
  clear hT hnk hR hok hS hl hK hks he
  go_enter Tryz.func20, Tryz.ntmps20
  go_wp2
  go_loopw [5, 6] (fun v i wr => ∃ (k : Nat) (l : L), k ≤ nk ∧ i = .int .i64 k ∧ v = .string ⟨l.toArray⟩ ∧ l.length ≤ 1000000000002 ∧ Below (w.heap.size + 1) (w.alloc (.cells #[.int .i64 7, .int .i64 m, .int .i64 g, .string s, .slice p1 nk c1, .slice p2 nk c2] 26)) wr ∧ Hid (l = 60 :: 60 :: pairsT n ((ks.zip os).take k))) (fun _ i _ => nk - (intOf i).toNat)
  case atStart => exact ⟨0, [60, 60], Nat.zero_le _, rfl, rfl, by simp, (by repeat' (first | (with_reducible exact Below.refl _ _) | (with_reducible refine Below.drew ?_) | (with_reducible refine belowDrewN ?_ _) | (with_reducible refine belowIter ?_ ?_ _ _) | (with_reducible refine Below.setCell ?_ ?_ _) | (with_reducible refine Below.alloc ?_ ?_ _) | (with_reducible refine Below.trans ?_ (Below.mono hb4 ?_)) | (with_reducible refine Below.trans ?_ (Below.mono hb3 ?_)) | (with_reducible refine Below.trans ?_ (Below.mono hb2 ?_)) | (with_reducible refine Below.trans ?_ (Below.mono hb1 ?_)) | (with_reducible refine Below.trans ?_ (Below.mono hbr ?_)) | (with_reducible refine Below.trans ?_ (Below.mono hb ?_)) | (simp; done) | (simp; omega) | omega)), Lib.hid rfl⟩
  case round =>
    obtain ⟨k, l, hk, rfl, rfl, hll, hb, HA⟩ := hrel
    by_cases hlt : k < nk
    · have hbw : Below w.heap.size w wr := (show Below w.heap.size w (w.alloc (.cells #[.int .i64 7, .int .i64 m, .int .i64 g, .string s, .slice p1 nk c1, .slice p2 nk c2] 26)) from (by repeat' (first | (with_reducible exact Below.refl _ _) | (with_reducible refine Below.drew ?_) | (with_reducible refine belowDrewN ?_ _) | (with_reducible refine belowIter ?_ ?_ _ _) | (with_reducible refine Below.setCell ?_ ?_ _) | (with_reducible refine Below.alloc ?_ ?_ _) | (with_reducible refine Below.trans ?_ (Below.mono hb4 ?_)) | (with_reducible refine Below.trans ?_ (Below.mono hb3 ?_)) | (with_reducible refine Below.trans ?_ (Below.mono hb2 ?_)) | (with_reducible refine Below.trans ?_ (Below.mono hb1 ?_)) | (with_reducible refine Below.trans ?_ (Below.mono hbr ?_)) | (with_reducible refine Below.trans ?_ (Below.mono hb ?_)) | (simp; done) | (simp; omega) | omega))).trans (hb.mono (by omega))
      have hKw : KeysAt S wr (.slice p1 nk c1) ks := HKW.out.1.kept (fun b h => hbw.block b (HRW.out.2.2 b h))
      obtain ⟨b1, f1, rfl⟩ : ∃ b off, p1 = some ⟨b, off, none⟩ := by
        rcases hKw with ⟨e, _⟩ | ⟨b, off, c, e, _⟩
        · have := HNQ.out; rw [e] at this; simp at this; omega
        · cases e; exact ⟨_, _, rfl⟩
      obtain ⟨s0, g1⟩ := key_at hKw HNQ.out k hlt
      obtain ⟨y, hy⟩ : ∃ y, ks.getD k [] = y := ⟨_, rfl⟩
      rw [hy] at g1
      have hkq : k < ks.length := by rw [HNQ.out]; exact hlt
      have hym : y.length ≤ 127 := by rw [← hy]; exact HKW.out.2 _ (by simp [List.getD, hkq])
      have hRw : RowAt S d wr (.slice p2 nk c2) os := HRW.out.1.kept (fun b h => hbw.block b (HRW.out.2.2 b h))
      obtain ⟨b, off, rfl⟩ : ∃ b off, p2 = some ⟨b, off, none⟩ := by
        rcases hRw with ⟨e, _⟩ | ⟨b, off, c, e, _⟩
        · have := HNK.out; rw [e] at this; simp at this; omega
        · cases e; exact ⟨_, _, rfl⟩
      obtain ⟨x, p3, n3, e3, p4, n4, e4, hx, hxm, s1, O1, f0, f1', f2, f3, f4, f5⟩ := row_kid hRw HNK.out k hlt
      have hS2 : ∀ b, S b → b < wr.heap.size := fun b h => Nat.lt_of_lt_of_le (HRW.out.2.2 b h) hbw.size
      have htk : (ks.zip os).take (k + 1) = (ks.zip os).take k ++ [(y, x)] := by
        have hk' : k < os.length := by rw [HNK.out]; exact hlt
        rw [List.take_succ_eq_append_getElem (by simp; omega), List.getElem_zip, ← hx, ← hy]; simp [List.getD, hk', hkq]
      have hlen := pairsT_take n (ks.zip os) (k + 1)
      rw [htk, pairsT_snoc] at hlen
      simp only [List.length_append, List.length_cons, List.length_nil] at hlen
      have hlx : (textO n x).length ≤ 1000000000000 := by have := HL.out; omega
      obtain ⟨X, hX⟩ : ∃ X, textO n x = X := ⟨_, rfl⟩
      obtain ⟨Y, hY⟩ : ∃ Y : L, 47 :: escS true y = Y := ⟨_, rfl⟩
      have hYl : Y.length = (escS true y).length + 1 := by rw [← hY]; rfl
      have hlA : l.length + Y.length + 1 + X.length + 1 ≤ 1000000000002 := by
        have := HL.out
        rw [HA.out, ← hX]
        simp only [List.length_cons]
        omega
      have HI := Lib.hid (fun (W : World) (hW : Below wr.heap.size wr W) => IH d W _ x (O1.kept (fun b h => hW.block b (hS2 b h)) d) (HRW.out.2.1 x hxm) hlx (fun b h => Nat.lt_of_lt_of_le (hS2 b h) hW.size))
      unfold objCells at HI
      rw [hX] at HI
      have HM := Lib.hid (fun W => text_name none 0 0 none 0 0 0 0 y W (by omega))
      rw [hY] at HM
      have HKY := Lib.hid (fun W => bkey_in y W)
      have HX := Lib.hid (show 60 :: 60 :: pairsT n ((ks.zip os).take (k + 1)) = l ++ Y ++ [32] ++ X ++ [32] by rw [htk, pairsT_snoc, HA.out, hX, hY]; simp)
      have L1 : b < wr.heap.size := hS2 b s1
      have LK : b1 < wr.heap.size := hS2 b1 s0
      have hszr := hb.size
      simp at hszr
      have HG := Lib.hid ((hb.block w.heap.size (by omega)).trans (heap_new_at w (.cells #[.int .i64 7, .int .i64 m, .int .i64 g, .string s, .slice (some ⟨b1, f1, none⟩) nk c1, .slice (some ⟨b, off, none⟩) nk c2] 26 (0, 0)) _ rfl))
      obtain ⟨z0, z1, z2, z3, z4, z5, zf⟩ := six_of HG.out
      have L0 : w.heap.size < wr.heap.size := by omega
      have y1 : ¬ 9223372036854775807 < l.length + Y.length := by omega
      have y2 : ¬ 9223372036854775807 < l.length + Y.length + 1 := by omega
      have y3 : ¬ 9223372036854775807 < l.length + Y.length + 1 + X.length := by omega
      have y4 : ¬ 9223372036854775807 < l.length + Y.length + 1 + X.length + 1 := by omega
      have hi1 : (0 : Int) ≤ k := by omega
      have hi2 : (k : Int) < nk := by omega
      have HF := Lib.hid (And.intro f0 (And.intro f1' (And.intro f2 (And.intro f3 (And.intro f4 f5)))))
      have HF6 := Lib.hid g1
      have hbw5 : Below wr.heap.size wr wr := Below.refl _ _
      have hz5 := hbw5.size
      clear hKw hRw hx hy hym hxm O1 hS2 htk hlen hlx hX hY hYl hkq
      go_upto_region 28 with fail
      go_region_held3 (fun w' => w'.cell? ⟨b, off + k * 6, none⟩ = some (.int .i64 x.kind) ∧ w'.cell? ⟨b, off + k * 6 + 1, none⟩ = some (.int .i64 x.n) ∧ w'.cell? ⟨b, off + k * 6 + 2, none⟩ = some (.int .i64 x.g) ∧ w'.cell? ⟨b, off + k * 6 + 3, none⟩ = some (.string ⟨x.s.toArray⟩) ∧ w'.cell? ⟨b, off + k * 6 + 4, none⟩ = some (.slice p3 n3 e3) ∧ w'.cell? ⟨b, off + k * 6 + 5, none⟩ = some (.slice p4 n4 e4) ∧
          w'.cell? ⟨b1, f1 + k, none⟩ = some (.string ⟨y.toArray⟩) ∧ w'.cell? ⟨w.heap.size, 4, none⟩ = some (.slice (some ⟨b1, f1, none⟩) nk c1) ∧ w'.cell? ⟨w.heap.size, 5, none⟩ = some (.slice (some ⟨b, off, none⟩) nk c2)) (go_keep)
        (first | (go_at_call 34; with_reducible refine (HKY.out _).mono ?_; rintro e w1 ⟨rfl, hb1⟩; have hbw5 : Below wr.heap.size wr w1 := (by repeat' (first | (with_reducible exact Below.refl _ _) | (with_reducible refine Below.drew ?_) | (with_reducible refine belowDrewN ?_ _) | (with_reducible refine belowIter ?_ ?_ _ _) | (with_reducible refine Below.setCell ?_ ?_ _) | (with_reducible refine Below.alloc ?_ ?_ _) | (with_reducible refine Below.trans ?_ (Below.mono hb4 ?_)) | (with_reducible refine Below.trans ?_ (Below.mono hbw5 ?_)) | (with_reducible refine Below.trans ?_ (Below.mono hb2 ?_)) | (with_reducible refine Below.trans ?_ (Below.mono hb1 ?_)) | (with_reducible refine Below.trans ?_ (Below.mono hbr ?_)) | (with_reducible refine Below.trans ?_ (Below.mono hb ?_)) | (simp; done) | (simp; omega) | omega)); have hz5 := hbw5.size; obtain ⟨k0, k1, k2, k3, k4, k5⟩ := six_keep hbw5 L1 HF.out; have k6 := (hbw5.cell (p := ⟨b1, f1 + k, none⟩) LK).trans HF6.out; obtain ⟨j0, j1, j2, j3, j4, j5, jf⟩ := six_of ((hbw5.block _ L0).trans HG.out)) | (go_at_call 20; with_reducible refine (HM.out _).mono ?_; rintro e w1 ⟨rfl, hb1⟩; have hbw5 : Below wr.heap.size wr w1 := (by repeat' (first | (with_reducible exact Below.refl _ _) | (with_reducible refine Below.drew ?_) | (with_reducible refine belowDrewN ?_ _) | (with_reducible refine belowIter ?_ ?_ _ _) | (with_reducible refine Below.setCell ?_ ?_ _) | (with_reducible refine Below.alloc ?_ ?_ _) | (with_reducible refine Below.trans ?_ (Below.mono hb4 ?_)) | (with_reducible refine Below.trans ?_ (Below.mono hbw5 ?_)) | (with_reducible refine Below.trans ?_ (Below.mono hb2 ?_)) | (with_reducible refine Below.trans ?_ (Below.mono hb1 ?_)) | (with_reducible refine Below.trans ?_ (Below.mono hbr ?_)) | (with_reducible refine Below.trans ?_ (Below.mono hb ?_)) | (simp; done) | (simp; omega) | omega)); have hz5 := hbw5.size; obtain ⟨k0, k1, k2, k3, k4, k5⟩ := six_keep hbw5 L1 HF.out; have k6 := (hbw5.cell (p := ⟨b1, f1 + k, none⟩) LK).trans HF6.out; obtain ⟨j0, j1, j2, j3, j4, j5, jf⟩ := six_of ((hbw5.block _ L0).trans HG.out)) | (go_at_call 20; with_reducible refine (HI.out _ ?_).mono ?_; exact (by repeat' (first | (with_reducible exact Below.refl _ _) | (with_reducible refine Below.drew ?_) | (with_reducible refine belowDrewN ?_ _) | (with_reducible refine belowIter ?_ ?_ _ _) | (with_reducible refine Below.setCell ?_ ?_ _) | (with_reducible refine Below.alloc ?_ ?_ _) | (with_reducible refine Below.trans ?_ (Below.mono hb4 ?_)) | (with_reducible refine Below.trans ?_ (Below.mono hbw5 ?_)) | (with_reducible refine Below.trans ?_ (Below.mono hb2 ?_)) | (with_reducible refine Below.trans ?_ (Below.mono hb1 ?_)) | (with_reducible refine Below.trans ?_ (Below.mono hbr ?_)) | (with_reducible refine Below.trans ?_ (Below.mono hb ?_)) | (simp; done) | (simp; omega) | omega)); rintro e w1 ⟨rfl, hb1⟩; have hbw5 : Below wr.heap.size wr w1 := (by repeat' (first | (with_reducible exact Below.refl _ _) | (with_reducible refine Below.drew ?_) | (with_reducible refine belowDrewN ?_ _) | (with_reducible refine belowIter ?_ ?_ _ _) | (with_reducible refine Below.setCell ?_ ?_ _) | (with_reducible refine Below.alloc ?_ ?_ _) | (with_reducible refine Below.trans ?_ (Below.mono hb4 ?_)) | (with_reducible refine Below.trans ?_ (Below.mono hbw5 ?_)) | (with_reducible refine Below.trans ?_ (Below.mono hb2 ?_)) | (with_reducible refine Below.trans ?_ (Below.mono hb1 ?_)) | (with_reducible refine Below.trans ?_ (Below.mono hbr ?_)) | (with_reducible refine Below.trans ?_ (Below.mono hb ?_)) | (simp; done) | (simp; omega) | omega)); have hz5 := hbw5.size; obtain ⟨k0, k1, k2, k3, k4, k5⟩ := six_keep hbw5 L1 HF.out; have k6 := (hbw5.cell (p := ⟨b1, f1 + k, none⟩) LK).trans HF6.out; obtain ⟨j0, j1, j2, j3, j4, j5, jf⟩ := six_of ((hbw5.block _ L0).trans HG.out)))
      all_goals go_wp2
      all_goals
        go_roundw
        case rel => exact ⟨k + 1, l ++ Y ++ [32] ++ X ++ [32], by omega, by go_num, val_str (by simp), by simp; omega, hb.trans (hbw5.mono (by omega)), Lib.hid HX.out.symm⟩
        case measure => simp [intOf]; omega
    · have hszr := hb.size
      simp at hszr
      obtain ⟨b0, b1', b2, b3, b4, b5, bf⟩ := six_of ((hb.block w.heap.size (by omega)).trans (heap_new_at w _ _ rfl))
      have HE := Lib.hid (show T = l ++ [62, 62] by
        have hkn : k = nk := by omega
        rw [← HT.out, HA.out, List.take_of_length_le (by simp [HNK.out]; omega)]; simp)
      have y1 : l.length + 2 ≤ 9223372036854775807 := by omega
      go_wp2
      go_ret
      exact ⟨ret_str (by rw [HE.out]; simp), (by repeat' (first | (with_reducible exact Below.refl _ _) | (with_reducible refine Below.drew ?_) | (with_reducible refine belowDrewN ?_ _) | (with_reducible refine belowIter ?_ ?_ _ _) | (with_reducible refine Below.setCell ?_ ?_ _) | (with_reducible refine Below.alloc ?_ ?_ _) | (with_reducible refine Below.trans ?_ (Below.mono hb4 ?_)) | (with_reducible refine Below.trans ?_ (Below.mono hb3 ?_)) | (with_reducible refine Below.trans ?_ (Below.mono hb2 ?_)) | (with_reducible refine Below.trans ?_ (Below.mono hb1 ?_)) | (with_reducible refine Below.trans ?_ (Below.mono hbr ?_)) | (with_reducible refine Below.trans ?_ (Below.mono hb ?_)) | (simp; done) | (simp; omega) | omega))⟩
theorem text_step (S : Nat → Prop) (n : Nat) (IH : TextC S n) : TextC S (n + 1) := by
  intro d w cs o hO hok hl hS
  cases d with
  | zero => exact hO.elim
  | succ d =>
  obtain ⟨p1, c1, p2, c2, rfl⟩ := hO.form2
  obtain ⟨kv, dv, hcs, hK0, hR0⟩ := hO
  have hR : RowAt S d w (.slice p2 o.kids.length c2) o.kids := by
    simp [objCells] at hcs; rw [hcs.2]; exact hR0
  have hK : KeysAt S w (.slice p1 o.keys.length c1) o.keys := by
    simp [objCells] at hcs; rw [hcs.1]; exact hK0
  clear hR0 hcs hK0
  have hk : ∀ k ∈ o.kids, okO n k := hok.2.2.2.2.2.2
  have h8 : o.kids.length ≤ 8191 := hok.2.2.2.2.1
  have hlo := hok.2.2.2.1
  have hlb : longB o.kind ≤ 1048576 := longB_le _
  have hsl : o.s.length ≤ 1048576 := by omega
  clear hlo hlb
  cases o with
  | mk k m g s ks os =>
    rcases okO_kinds hok with ⟨rfl, rfl, rfl, rfl, rfl, rfl⟩ | ⟨rfl, hn, rfl, rfl, rfl, rfl⟩ | ⟨rfl, hn, rfl, rfl, rfl, rfl⟩ | ⟨rfl, hn, rfl, rfl, rfl, rfl⟩ | ⟨rfl, rfl, rfl, hs, rfl, rfl⟩ | ⟨rfl, rfl, rfl, hs, rfl, rfl⟩ | ⟨rfl, hn, rfl, rfl, rfl⟩ | ⟨rfl, rfl, rfl, rfl, rfl⟩ | ⟨rfl, rfl, rfl, rfl, hkb⟩
    · exact text_null _ _ _ _ _ _ _ _ _ w
    · exact text_bool _ _ _ _ _ _ _ _ _ w hn
    · exact text_int _ _ _ _ _ _ _ _ _ w hn.1 hn.2
    · exact text_real _ _ _ _ _ _ _ _ _ w hn.1 hn.2
    · exact text_str _ _ _ _ _ _ _ _ _ w hsl
    · exact text_name _ _ _ _ _ _ _ _ _ w hsl
    · exact text_ref _ _ _ _ _ _ _ _ _ w hn.1 hn.2.1 hn.2.2.1 hn.2.2.2
    · have e1 : (textO (n + 1) (.mk 6 0 0 [] [] os)).length = (91 :: (kidsT n os ++ [93])).length := rfl
      simp only [List.length_cons, List.length_append, List.length_nil] at e1
      exact text_arr S n d IH os 0 0 _ p1 p2 _ c1 c2 w hR hk (by omega) h8 hS
    · have e1 : (textO (n + 1) (.mk 7 0 0 [] ks os)).length = (60 :: 60 :: (pairsT n (ks.zip os) ++ [62, 62])).length := rfl
      simp only [List.length_cons, List.length_append, List.length_nil] at e1
      obtain ⟨q1, q2, _, _⟩ := dict_same hkb
      exact text_dict S n d IH ks os 0 0 _ p1 p2 c1 c2 w hK hR hk (fun x hx => (nameB_ne (q2 x hx)).2) q1 (by omega) h8 hS
theorem rtext_in (S : Nat → Prop) : ∀ n, TextC S n
  | 0 => fun _ _ _ _ _ h => h.elim
  | n + 1 => text_step S n (rtext_in S n)
end Go.Proofs.YtpadlepdgnlgnaaGreatDoor
