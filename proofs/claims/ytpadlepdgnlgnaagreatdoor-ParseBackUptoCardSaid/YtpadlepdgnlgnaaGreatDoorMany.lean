/- The walk of parse.Many. -/
import Derived.Test.YtpadlepdgnlgnaaGreatDoorTop
import Derived.Test.YtpadlepdgnlgnaaGreatDoorSame
set_option linter.all false
namespace Go.Proofs.YtpadlepdgnlgnaaGreatDoor
open Go.RowKit Fo

theorem two_of {w : World} {b : Nat} {t : TypeId} {v0 v1 : Value} (h : w.heap[b]? = some (.cells #[v0, v1] t (0, 0))) :
    w.cell? ⟨b, 0, none⟩ = some v0 ∧ w.cell? ⟨b, 1, none⟩ = some v1 ∧ ∀ o, w.frozen? ⟨b, o, none⟩ = false := by
  simp [World.cell?, World.frozen?, h]
/-- All objects of a text from place a on: the list, or where it stops and why. -/
inductive Mres where
  | all (os : List Ob)
  | fault (at_ : Nat) (e : Int)
def manyS : Nat → Nat → L → List Ob → Mres
  | 0, _, _, _ => .fault 0 0
  | m + 1, a, l, acc =>
    match (nextT l).2 with
    | .bad e => .fault (a + skipN false l) e
    | .good t =>
      if t.kind = 0 then .all acc
      else if 8191 ≤ acc.length then .fault (a + skipN false l) 6
      else
        match readS l with
        | .bad e => .fault (a + skipN false l) e
        | .good (o, r) => manyS m (a + (l.length - r.length)) r (acc ++ [o])
theorem nextT_fst (l : L) : (nextT l).1 = skipN false l := rfl
structure MInv (s : ByteArray) (m : Int) (w wr : World) (a : Nat) (acc : List Ob) (css : List (List Value)) (v : Value) : Prop where
  ha : a ≤ s.size
  hm : MaxW wr m
  hb : Below w.heap.size w wr
  hF : wr.heap[w.heap.size]? = some (.cells #[.int .i64 0, .int .i64 0] 33 (0, 0))
  hrow : wr.ownsRow (w.heap.size + 1) 26 6 v acc.length css.flatten
  hkids : KidsAt (fun b => w.heap.size + 1 ≤ b ∧ v.ownBlock ≠ some b) 25 wr css acc
  hlen : acc.length ≤ 8191
theorem MInv.step {s : ByteArray} {m : Int} {w wr w4 wz : World} {a z g cap : Nat} {acc : List Ob} {css : List (List Value)} {v : Value} (h : MInv s m w wr a acc css v) {ob : Go.Obj} {o : Ob} {cs : List Value}
    (hb4 : Below wr.heap.size wr w4) (hO : ObjAt (fun b => wr.heap.size ≤ b) 25 w4 cs o) (hz : z ≤ s.size) (hl : ¬ 8191 ≤ acc.length)
    (hown : wz.ownsRow (w.heap.size + 1) 26 6 (.slice (some ⟨g, 0, none⟩) (acc.length + 1) cap) (acc.length + 1) (css.flatten ++ cs))
    (hg : (w4.alloc ob).grownBy wz v.ownBlock) (hat : v.ownBlock = some g ∨ g = w4.heap.size + 1) :
    MInv s m w wz z (acc ++ [o]) (css ++ [cs]) (.slice (some ⟨g, 0, none⟩) (acc.length + 1) cap) := by
  have l0 := h.hb.size
  have l4 := hb4.size
  have hlo := own_base h.hrow
  have hup : ∀ k, v.ownBlock = some k → k < wr.heap.size := fun k hk => (World.ownsRow.lt h.hrow k hk).2
  have lF : w.heap.size < wr.heap.size := lt_of_block h.hF
  have keep : ∀ b, b < w4.heap.size → v.ownBlock ≠ some b → wz.heap[b]? = w4.heap[b]? := fun b h1 h2 => (hg.block b (by simp; omega) (Ne.symm h2)).trans (Below.heap_alloc _ _ _ h1)
  have nlow : ∀ b, b < w.heap.size + 1 → v.ownBlock ≠ some b := fun b h1 h2 => by have := hlo b h2; omega
  have hgs := hg.size
  simp at hgs
  have hggn : ∀ b, b < w4.heap.size → v.ownBlock ≠ some b → some g ≠ some b := by
    intro b h1 h2 h3
    simp only [Option.some.injEq] at h3; subst h3
    rcases hat with h | h
    · exact h2 h
    · omega
  refine ⟨hz, ?_, ?_, ?_, ?_, ?_, by simp; omega⟩
  · have hm4 := h.hm.below hb4
    have := MaxW.lt h.hm
    unfold MaxW at *
    by_cases h0 : v.ownBlock = some 0
    · have := hlo 0 h0; omega
    · rw [World.cell?_of_block (keep 0 (by omega) h0)]; exact hm4
  · have hs := h.hb
    exact ⟨hg.os.trans (hb4.os.trans hs.os), hg.tape.trans (hb4.tape.trans hs.tape), hg.output.trans (hb4.output.trans hs.output), by omega, fun b hb => (keep b (by omega) (nlow b (by omega))).trans ((hb4.block b (by omega)).trans (hs.block b hb))⟩
  · rw [keep _ (by omega) (nlow _ (by omega)), hb4.block _ lF]; exact h.hF
  · simpa using hown
  · refine KidsAt.push ?_ hO.len ?_
    · exact h.hkids.grow (fun b h1 h2 => ⟨⟨h1.1, hggn b (by omega) h1.2⟩, (keep b (by omega) h1.2).trans (hb4.block b h2)⟩)
    · refine hO.grow (fun b h1 h2 => ?_)
      have nb : v.ownBlock ≠ some b := fun h => by have := hup b h; omega
      exact ⟨⟨by omega, hggn b h2 nb⟩, keep b h2 nb⟩
theorem MInv.row {s : ByteArray} {m : Int} {w wr W : World} {a : Nat} {acc : List Ob} {css : List (List Value)} {v : Value} (h : MInv s m w wr a acc css v) (hW : ∀ b, w.heap.size + 1 ≤ b → b < wr.heap.size → W.heap[b]? = wr.heap[b]?) :
    RowAt (fun b => w.heap.size ≤ b) 25 W v acc := by
  have h1 : RowAt (fun b => w.heap.size + 1 ≤ b) 25 wr v acc := kids_at h.hrow h.hkids (fun b h => h.1) (fun b h => h)
  exact h1.grow (fun b h1 h2 => ⟨by omega, hW b h1 h2⟩)
theorem own_cap {w : World} {B sz n : Nat} {e : TypeId} {p : Option Addr} {m c : Nat} {xs : List Value} (h : w.ownsRow B e sz (.slice p m c) n xs) : n ≤ c := by
  rcases h.2 with ⟨h1, h2⟩ | ⟨g, cap, cur, h1, _, _, h3, _⟩
  · omega
  · cases h1; exact h3
def ManyPost (w : World) (T : Mres) (e : Ending) (w' : World) : Prop :=
  match T with
  | .all os => ∃ p c, e = .returned (.tuple #[.slice p os.length c, .agg #[.int .i64 0, .int .i64 0]]) ∧ os.length ≤ c ∧ RowAt (fun b => w.heap.size ≤ b) 25 w' (.slice p os.length c) os ∧ os.length ≤ 8191 ∧ Below w.heap.size w w'
  | .fault p k => e = .returned (.tuple #[.slice none 0 0, .agg #[.int .i64 p, .int .i64 k]]) ∧ Below w.heap.size w w'
set_option maxRecDepth 100000 in
set_option maxHeartbeats 2000000 in
theorem Many_in (s : ByteArray) (hs : s.size ≤ 140737488355327) (m : Int) (w : World) (hm : MaxW w m) :
    Calls Tryz.prog 13 #[.string s] w (ManyPost w (manyS (s.size + 1) 0 s.data.toList [])) := by
  obtain ⟨T, hT⟩ : ∃ T, manyS (s.size + 1) 0 s.data.toList [] = T := ⟨_, rfl⟩
  rw [hT]
  have HT := Lib.hid hT
  clear hT
  go_enter Tryz.func13, Tryz.ntmps13
  go_wp2_with fail
  go_loopw [4, 5] (fun v i wr => ∃ (a fuel : Nat) (acc : List Ob) (css : List (List Value)), i = .int .i64 a ∧ MInv s m w wr a acc css v ∧ s.size - a < fuel ∧ Hid (manyS fuel a (s.data.toList.drop a) acc = T)) (fun _ i _ => s.size - (intOf i).toNat)
  case atStart =>
    refine ⟨0, _, [], [], rfl, ⟨Nat.zero_le _, hm.below (by repeat' (first | (with_reducible exact Below.refl _ _) | (with_reducible refine Below.drew ?_) | (with_reducible refine belowDrewN ?_ _) | (with_reducible refine belowIter ?_ ?_ _ _) | (with_reducible refine Below.setCell ?_ ?_ _) | (with_reducible refine Below.alloc ?_ ?_ _) | (with_reducible refine Below.trans ?_ (Below.mono hb4 ?_)) | (with_reducible refine Below.trans ?_ (Below.mono hb3 ?_)) | (with_reducible refine Below.trans ?_ (Below.mono hb2 ?_)) | (with_reducible refine Below.trans ?_ (Below.mono hb1 ?_)) | (with_reducible refine Below.trans ?_ (Below.mono hbr ?_)) | (with_reducible refine Below.trans ?_ (Below.mono hb ?_)) | (simp; done) | (simp; omega) | omega)), (by repeat' (first | (with_reducible exact Below.refl _ _) | (with_reducible refine Below.drew ?_) | (with_reducible refine belowDrewN ?_ _) | (with_reducible refine belowIter ?_ ?_ _ _) | (with_reducible refine Below.setCell ?_ ?_ _) | (with_reducible refine Below.alloc ?_ ?_ _) | (with_reducible refine Below.trans ?_ (Below.mono hb4 ?_)) | (with_reducible refine Below.trans ?_ (Below.mono hb3 ?_)) | (with_reducible refine Below.trans ?_ (Below.mono hb2 ?_)) | (with_reducible refine Below.trans ?_ (Below.mono hb1 ?_)) | (with_reducible refine Below.trans ?_ (Below.mono hbr ?_)) | (with_reducible refine Below.trans ?_ (Below.mono hb ?_)) | (simp; done) | (simp; omega) | omega)), heap_new_at _ _ _ rfl, ⟨by simp, .inl ⟨rfl, rfl⟩⟩, KidsAt.nil, by simp⟩, ?_, HT⟩
    omega
  case round =>
    obtain ⟨a, fuel, acc, css, rfl, hI, hfu, H⟩ := hrel
    clear HT
    obtain ⟨pv, cv, rfl⟩ := own_slice hI.hrow
    have hcap := own_cap hI.hrow
    obtain ⟨fuel, rfl⟩ : ∃ f, fuel = f + 1 := ⟨fuel - 1, by omega⟩
    have ha := hI.ha
    have hm1 := hI.hm
    have hbr := hI.hb
    have lF : w.heap.size < wr.heap.size := lt_of_block hI.hF
    have HF := Lib.hid hI.hF
    cases hn : (nextT (s.data.toList.drop a)).2 with
    | bad k =>
      have hk00 := nextT_bad hn
      have hk0 : (k != 0) = true := by simp; omega
      have HX := Lib.hid (show T = .fault (a + skipN false (s.data.toList.drop a)) k by rw [← H.out, manyS, hn])
      have HN := Lib.hid (lexnext_bad s a k hn ha hs m wr hm1)
      have HSK := Lib.hid (fun W => skip_in s a ha (by unfold maxLen; omega) W)
      clear hn
      go_wp2_with fail
      refine HN.out.mono ?_
      rintro e w1 ⟨rfl, hb1⟩
      have hF1 := (hb1.block _ lF).trans HF.out
      have lF1 : w.heap.size < w1.heap.size := lt_of_block hF1
      obtain ⟨x0, x1, xf⟩ := two_of hF1
      have hl1 := hb1.size
      go_wp2_with (go_at_call 26; refine (HSK.out _).mono ?_; rintro e w2 ⟨rfl, rfl⟩)
      refine bodyPost_ret (v := .tuple #[.slice none 0 0, .agg #[.int .i64 ((a + skipN false (s.data.toList.drop a) : Nat) : Int), .int .i64 k]]) (by simp [results, Tryz.results13, go_sem, x0, x1, xf, lF1]) rfl ?_
      rw [HX.out]
      exact ⟨rfl, (by repeat' (first | (with_reducible exact Below.refl _ _) | (with_reducible refine Below.drew ?_) | (with_reducible refine belowDrewN ?_ _) | (with_reducible refine belowIter ?_ ?_ _ _) | (with_reducible refine Below.setCell ?_ ?_ _) | (with_reducible refine Below.alloc ?_ ?_ _) | (with_reducible refine Below.trans ?_ (Below.mono hb4 ?_)) | (with_reducible refine Below.trans ?_ (Below.mono hb3 ?_)) | (with_reducible refine Below.trans ?_ (Below.mono hb2 ?_)) | (with_reducible refine Below.trans ?_ (Below.mono hb1 ?_)) | (with_reducible refine Below.trans ?_ (Below.mono hbr ?_)) | (with_reducible refine Below.trans ?_ (Below.mono hb ?_)) | (simp; done) | (simp; omega) | omega))⟩
    | good t =>
      obtain ⟨p, hp⟩ : ∃ p, a + (nextT (s.data.toList.drop a)).1 = p := ⟨_, rfl⟩
      have HP := Lib.hid (show a + skipN false (s.data.toList.drop a) = p from hp)
      have HN := Lib.hid (lexnext_good s a p t hn hp ha hs m wr hm1)
      clear hp
      by_cases hk : t.kind = 0
      · have HX := Lib.hid (show T = .all acc by rw [← H.out, manyS, hn]; dsimp only; rw [if_pos hk])
        have hk0 : (t.kind == 0) = true := by simpa using hk
        clear hn hk
        go_wp2_with fail
        refine HN.out.mono ?_
        rintro e w1 ⟨rfl, hb1⟩
        have hF1 := (hb1.block _ lF).trans HF.out
        have lF1 : w.heap.size < w1.heap.size := lt_of_block hF1
        obtain ⟨x0, x1, xf⟩ := two_of hF1
        have hl1 := hb1.size
        have HR := Lib.hid (fun W h => hI.row (W := W) h)
        go_wp2
        refine bodyPost_ret (v := .tuple #[.slice pv acc.length cv, .agg #[.int .i64 0, .int .i64 0]]) (by simp [results, Tryz.results13, go_sem, x0, x1, xf, lF1]) rfl ?_
        rw [HX.out]
        refine ⟨_, _, rfl, hcap, HR.out _ ?_, hI.hlen, (by repeat' (first | (with_reducible exact Below.refl _ _) | (with_reducible refine Below.drew ?_) | (with_reducible refine belowDrewN ?_ _) | (with_reducible refine belowIter ?_ ?_ _ _) | (with_reducible refine Below.setCell ?_ ?_ _) | (with_reducible refine Below.alloc ?_ ?_ _) | (with_reducible refine Below.trans ?_ (Below.mono hb4 ?_)) | (with_reducible refine Below.trans ?_ (Below.mono hb3 ?_)) | (with_reducible refine Below.trans ?_ (Below.mono hb2 ?_)) | (with_reducible refine Below.trans ?_ (Below.mono hb1 ?_)) | (with_reducible refine Below.trans ?_ (Below.mono hbr ?_)) | (with_reducible refine Below.trans ?_ (Below.mono hb ?_)) | (simp; done) | (simp; omega) | omega))⟩
        intro b h1 h2
        rw [Below.heap_alloc _ _ _ (by simp; omega), Below.heap_setCell _ _ _ _ (by show b ≠ w.heap.size; omega), Below.heap_setCell _ _ _ _ (by show b ≠ w.heap.size; omega)]
        exact hb1.block b h2
      · have hk0 : (t.kind == 0) = false := by simpa using hk
        by_cases h9 : 8191 ≤ acc.length
        · have HX := Lib.hid (show T = .fault p 6 by rw [← H.out, manyS, hn]; dsimp only; rw [if_neg hk, if_pos h9, HP.out])
          have e9 : decide ((acc.length : Int) ≥ 8191) = true := by simp; omega
          clear hn hk
          go_wp2_with fail
          refine HN.out.mono ?_
          rintro e w1 ⟨rfl, hb1⟩
          have hF1 := (hb1.block _ lF).trans HF.out
          have lF1 : w.heap.size < w1.heap.size := lt_of_block hF1
          obtain ⟨x0, x1, xf⟩ := two_of hF1
          have hl1 := hb1.size
          go_wp2
          obtain ⟨w3, hw3⟩ : ∃ w3, w1.alloc (.cells #[.int .i64 t.kind, .int .i64 p, .int .i64 (p + t.len), .int .i64 t.n, .string ⟨t.s.toArray⟩] 52) = w3 := ⟨_, rfl⟩
          have hb3 : Below w1.heap.size w1 w3 := hw3 ▸ (by repeat' (first | (with_reducible exact Below.refl _ _) | (with_reducible refine Below.drew ?_) | (with_reducible refine belowDrewN ?_ _) | (with_reducible refine belowIter ?_ ?_ _ _) | (with_reducible refine Below.setCell ?_ ?_ _) | (with_reducible refine Below.alloc ?_ ?_ _) | (with_reducible refine Below.trans ?_ (Below.mono hb4 ?_)) | (with_reducible refine Below.trans ?_ (Below.mono hb3 ?_)) | (with_reducible refine Below.trans ?_ (Below.mono hb2 ?_)) | (with_reducible refine Below.trans ?_ (Below.mono hb1 ?_)) | (with_reducible refine Below.trans ?_ (Below.mono hbr ?_)) | (with_reducible refine Below.trans ?_ (Below.mono hb ?_)) | (simp; done) | (simp; omega) | omega))
          have hg3 : w3.heap[w1.heap.size]? = some (.cells #[.int .i64 t.kind, .int .i64 p, .int .i64 (p + t.len), .int .i64 t.n, .string ⟨t.s.toArray⟩] 52 (0, 0)) := hw3 ▸ heap_alloc_new w1 _
          rw [hw3]
          clear hw3
          obtain ⟨y0, y1, y2, y3, y4, yf⟩ := five_of hg3
          obtain ⟨z0, z1, zf⟩ := two_of ((hb3.block _ lF1).trans hF1)
          have ne1 : ¬ w1.heap.size = w.heap.size := by omega
          have ne2 : ¬ w.heap.size = w1.heap.size := by omega
          have hb03 : Below w.heap.size w w3 := (by repeat' (first | (with_reducible exact Below.refl _ _) | (with_reducible refine Below.drew ?_) | (with_reducible refine belowDrewN ?_ _) | (with_reducible refine belowIter ?_ ?_ _ _) | (with_reducible refine Below.setCell ?_ ?_ _) | (with_reducible refine Below.alloc ?_ ?_ _) | (with_reducible refine Below.trans ?_ (Below.mono hb4 ?_)) | (with_reducible refine Below.trans ?_ (Below.mono hb3 ?_)) | (with_reducible refine Below.trans ?_ (Below.mono hb2 ?_)) | (with_reducible refine Below.trans ?_ (Below.mono hb1 ?_)) | (with_reducible refine Below.trans ?_ (Below.mono hbr ?_)) | (with_reducible refine Below.trans ?_ (Below.mono hb ?_)) | (simp; done) | (simp; omega) | omega))
          have hl3 := hb3.size
          clear x0 x1 xf hg3
          go_region_held3 (fun w' => w'.cell? ⟨w1.heap.size, 1, none⟩ = some (.int .i64 p)) (go_keep) (fail)
          go_wp2
          refine bodyPost_ret (v := .tuple #[.slice none 0 0, .agg #[.int .i64 p, .int .i64 6]]) (by simp [results, Tryz.results13, go_sem, z0, z1, zf]) rfl ?_
          rw [HX.out]
          exact ⟨rfl, by (have hb := hb03; exact (by repeat' (first | (with_reducible exact Below.refl _ _) | (with_reducible refine Below.drew ?_) | (with_reducible refine belowDrewN ?_ _) | (with_reducible refine belowIter ?_ ?_ _ _) | (with_reducible refine Below.setCell ?_ ?_ _) | (with_reducible refine Below.alloc ?_ ?_ _) | (with_reducible refine Below.trans ?_ (Below.mono hb4 ?_)) | (with_reducible refine Below.trans ?_ (Below.mono hb3 ?_)) | (with_reducible refine Below.trans ?_ (Below.mono hb2 ?_)) | (with_reducible refine Below.trans ?_ (Below.mono hb1 ?_)) | (with_reducible refine Below.trans ?_ (Below.mono hbr ?_)) | (with_reducible refine Below.trans ?_ (Below.mono hb ?_)) | (simp; done) | (simp; omega) | omega)))⟩
        · cases hR : readS (s.data.toList.drop a) with
          | bad k =>
            have hk00 := readS_codes hR
            have hke : (k != 0) = true := by simp; omega
            have HX := Lib.hid (show T = .fault p k by rw [← H.out, manyS, hn]; dsimp only; rw [if_neg hk, if_neg h9, hR, HP.out])
            have e9 : decide ((acc.length : Int) ≥ 8191) = false := by simp; omega
            have HOB := Lib.hid (fun W hm => hR ▸ Object_in s a ha hs m W hm)
            clear hn hk hR hk00
            go_wp2_with fail
            refine HN.out.mono ?_
            rintro e w1 ⟨rfl, hb1⟩
            have hF1 := (hb1.block _ lF).trans HF.out
            have lF1 : w.heap.size < w1.heap.size := lt_of_block hF1
            obtain ⟨x0, x1, xf⟩ := two_of hF1
            have hl1 := hb1.size
            have hmA : MaxW w1 m := hm1.below hb1
            go_wp2_with fail
            refine (HOB.out _ (hmA.below (by repeat' (first | (with_reducible exact Below.refl _ _) | (with_reducible refine Below.drew ?_) | (with_reducible refine belowDrewN ?_ _) | (with_reducible refine belowIter ?_ ?_ _ _) | (with_reducible refine Below.setCell ?_ ?_ _) | (with_reducible refine Below.alloc ?_ ?_ _) | (with_reducible refine Below.trans ?_ (Below.mono hb4 ?_)) | (with_reducible refine Below.trans ?_ (Below.mono hb3 ?_)) | (with_reducible refine Below.trans ?_ (Below.mono hb2 ?_)) | (with_reducible refine Below.trans ?_ (Below.mono hb1 ?_)) | (with_reducible refine Below.trans ?_ (Below.mono hbr ?_)) | (with_reducible refine Below.trans ?_ (Below.mono hb ?_)) | (simp; done) | (simp; omega) | omega)))).mono ?_
            rintro e w2 ⟨rfl, hb2⟩
            have hg2 := (hb2.block w1.heap.size (by simp)).trans (heap_new_at w1 _ _ rfl)
            have hF2 := (hb2.block w.heap.size (by simp; omega)).trans ((Below.heap_alloc _ _ _ lF1).trans hF1)
            obtain ⟨y0, y1, y2, y3, y4, yf⟩ := five_of hg2
            obtain ⟨z0, z1, zf⟩ := two_of hF2
            have ne1 : ¬ w1.heap.size = w.heap.size := by omega
            have ne2 : ¬ w.heap.size = w1.heap.size := by omega
            have hl2 : w1.heap.size + 1 ≤ w2.heap.size := by have := hb2.size; simp at this; omega
            have hb02 : Below w.heap.size w w2 := (by repeat' (first | (with_reducible exact Below.refl _ _) | (with_reducible refine Below.drew ?_) | (with_reducible refine belowDrewN ?_ _) | (with_reducible refine belowIter ?_ ?_ _ _) | (with_reducible refine Below.setCell ?_ ?_ _) | (with_reducible refine Below.alloc ?_ ?_ _) | (with_reducible refine Below.trans ?_ (Below.mono hb4 ?_)) | (with_reducible refine Below.trans ?_ (Below.mono hb3 ?_)) | (with_reducible refine Below.trans ?_ (Below.mono hb2 ?_)) | (with_reducible refine Below.trans ?_ (Below.mono hb1 ?_)) | (with_reducible refine Below.trans ?_ (Below.mono hbr ?_)) | (with_reducible refine Below.trans ?_ (Below.mono hb ?_)) | (simp; done) | (simp; omega) | omega))
            clear x0 x1 xf
            go_wp2
            obtain ⟨w3, hw3⟩ : ∃ w3, w2.alloc (.cells #[.int .i64 0, .int .i64 0, .int .i64 0, .string ⟨#[]⟩, .slice none 0 0, .slice none 0 0] 26) = w3 := ⟨_, rfl⟩
            have hb3 : Below w2.heap.size w2 w3 := hw3 ▸ (by repeat' (first | (with_reducible exact Below.refl _ _) | (with_reducible refine Below.drew ?_) | (with_reducible refine belowDrewN ?_ _) | (with_reducible refine belowIter ?_ ?_ _ _) | (with_reducible refine Below.setCell ?_ ?_ _) | (with_reducible refine Below.alloc ?_ ?_ _) | (with_reducible refine Below.trans ?_ (Below.mono hb4 ?_)) | (with_reducible refine Below.trans ?_ (Below.mono hb3 ?_)) | (with_reducible refine Below.trans ?_ (Below.mono hb2 ?_)) | (with_reducible refine Below.trans ?_ (Below.mono hb1 ?_)) | (with_reducible refine Below.trans ?_ (Below.mono hbr ?_)) | (with_reducible refine Below.trans ?_ (Below.mono hb ?_)) | (simp; done) | (simp; omega) | omega))
            rw [hw3]
            clear hw3 y0 y1 y2 y3 y4 yf z0 z1 zf
            obtain ⟨y0, y1, y2, y3, y4, yf⟩ := five_of ((hb3.block _ (by omega)).trans hg2)
            obtain ⟨z0, z1, zf⟩ := two_of ((hb3.block _ (by omega)).trans hF2)
            have hb03 : Below w.heap.size w w3 := (by repeat' (first | (with_reducible exact Below.refl _ _) | (with_reducible refine Below.drew ?_) | (with_reducible refine belowDrewN ?_ _) | (with_reducible refine belowIter ?_ ?_ _ _) | (with_reducible refine Below.setCell ?_ ?_ _) | (with_reducible refine Below.alloc ?_ ?_ _) | (with_reducible refine Below.trans ?_ (Below.mono hb4 ?_)) | (with_reducible refine Below.trans ?_ (Below.mono hb3 ?_)) | (with_reducible refine Below.trans ?_ (Below.mono hb2 ?_)) | (with_reducible refine Below.trans ?_ (Below.mono hb1 ?_)) | (with_reducible refine Below.trans ?_ (Below.mono hbr ?_)) | (with_reducible refine Below.trans ?_ (Below.mono hb ?_)) | (simp; done) | (simp; omega) | omega))
            have hl3 := hb3.size
            go_region_held3 (fun w' => w'.cell? ⟨w1.heap.size, 1, none⟩ = some (.int .i64 p)) (go_keep) (fail)
            go_wp2
            refine bodyPost_ret (v := .tuple #[.slice none 0 0, .agg #[.int .i64 p, .int .i64 k]]) (by simp [results, Tryz.results13, go_sem, z0, z1, zf]) rfl ?_
            rw [HX.out]
            exact ⟨rfl, by (have hb := hb03; exact (by repeat' (first | (with_reducible exact Below.refl _ _) | (with_reducible refine Below.drew ?_) | (with_reducible refine belowDrewN ?_ _) | (with_reducible refine belowIter ?_ ?_ _ _) | (with_reducible refine Below.setCell ?_ ?_ _) | (with_reducible refine Below.alloc ?_ ?_ _) | (with_reducible refine Below.trans ?_ (Below.mono hb4 ?_)) | (with_reducible refine Below.trans ?_ (Below.mono hb3 ?_)) | (with_reducible refine Below.trans ?_ (Below.mono hb2 ?_)) | (with_reducible refine Below.trans ?_ (Below.mono hb1 ?_)) | (with_reducible refine Below.trans ?_ (Below.mono hbr ?_)) | (with_reducible refine Below.trans ?_ (Below.mono hb ?_)) | (simp; done) | (simp; omega) | omega)))⟩
          | good x =>
            obtain ⟨o, rest⟩ := x
            have hrest := (readS_ok hR).2.2
            have HX := Lib.hid (show manyS fuel (a + ((s.data.toList.drop a).length - rest.length)) rest (acc ++ [o]) = T by rw [← H.out, manyS, hn]; dsimp only; rw [if_neg hk, if_neg h9, hR])
            have e9 : decide ((acc.length : Int) ≥ 8191) = false := by simp; omega
            have HOB := Lib.hid (fun W hm => hR ▸ Object_in s a ha hs m W hm)
            have HRL := Lib.hid hrest
            clear hn hk hR hrest
            go_wp2_with fail
            refine HN.out.mono ?_
            rintro e w1 ⟨rfl, hb1⟩
            have hF1 := (hb1.block _ lF).trans HF.out
            have lF1 : w.heap.size < w1.heap.size := lt_of_block hF1
            obtain ⟨x0, x1, xf⟩ := two_of hF1
            have hl1 := hb1.size
            have hmA : MaxW w1 m := hm1.below hb1
            go_wp2_with fail
            refine (HOB.out _ (hmA.below (by repeat' (first | (with_reducible exact Below.refl _ _) | (with_reducible refine Below.drew ?_) | (with_reducible refine belowDrewN ?_ _) | (with_reducible refine belowIter ?_ ?_ _ _) | (with_reducible refine Below.setCell ?_ ?_ _) | (with_reducible refine Below.alloc ?_ ?_ _) | (with_reducible refine Below.trans ?_ (Below.mono hb4 ?_)) | (with_reducible refine Below.trans ?_ (Below.mono hb3 ?_)) | (with_reducible refine Below.trans ?_ (Below.mono hb2 ?_)) | (with_reducible refine Below.trans ?_ (Below.mono hb1 ?_)) | (with_reducible refine Below.trans ?_ (Below.mono hbr ?_)) | (with_reducible refine Below.trans ?_ (Below.mono hb ?_)) | (simp; done) | (simp; omega) | omega)))).mono ?_
            rintro e w2 ⟨p1, n1, c1, p2, n2, c2, z, rfl, hz1, rfl, hO, hb2⟩
            have hg2 := (hb2.block w1.heap.size (by simp)).trans (heap_new_at w1 _ _ rfl)
            have hF2 := (hb2.block w.heap.size (by simp; omega)).trans ((Below.heap_alloc _ _ _ lF1).trans hF1)
            obtain ⟨y0, y1, y2, y3, y4, yf⟩ := five_of hg2
            obtain ⟨z0, z1, zf⟩ := two_of hF2
            have ne1 : ¬ w1.heap.size = w.heap.size := by omega
            have ne2 : ¬ w.heap.size = w1.heap.size := by omega
            have hl2 : w1.heap.size + 1 ≤ w2.heap.size := by have := hb2.size; simp at this; omega
            have hb02 : Below w.heap.size w w2 := (by repeat' (first | (with_reducible exact Below.refl _ _) | (with_reducible refine Below.drew ?_) | (with_reducible refine belowDrewN ?_ _) | (with_reducible refine belowIter ?_ ?_ _ _) | (with_reducible refine Below.setCell ?_ ?_ _) | (with_reducible refine Below.alloc ?_ ?_ _) | (with_reducible refine Below.trans ?_ (Below.mono hb4 ?_)) | (with_reducible refine Below.trans ?_ (Below.mono hb3 ?_)) | (with_reducible refine Below.trans ?_ (Below.mono hb2 ?_)) | (with_reducible refine Below.trans ?_ (Below.mono hb1 ?_)) | (with_reducible refine Below.trans ?_ (Below.mono hbr ?_)) | (with_reducible refine Below.trans ?_ (Below.mono hb ?_)) | (simp; done) | (simp; omega) | omega))
            clear x0 x1 xf
            have hbw2 : Below wr.heap.size wr w2 := hb1.trans (((Below.refl w1.heap.size w1).alloc (Nat.le_refl _) _).trans (hb2.mono (by simp)) |>.mono hl1)
            have haz : a < z := by
              have := HRL.out
              simp only [List.length_drop, Array.length_toList, show s.data.size = s.size from rfl] at this
              omega
            have HX2 := Lib.hid (show manyS fuel z (s.data.toList.drop z) (acc ++ [o]) = T by
              rw [← HX.out]; congr 1
              simp only [List.length_drop, Array.length_toList, show s.data.size = s.size from rfl]
              omega)
            have HO2 := Lib.hid (fun (ob : Go.Obj) => ObjAt.grow (S' := fun b => wr.heap.size ≤ b) (w' := w2.alloc ob) hO (fun b h1 h2 => ⟨by simp at h1; omega, Below.heap_alloc _ _ _ h2⟩))
            have hrow2 : ∀ ob : Go.Obj, (w2.alloc ob).ownsRow (w.heap.size + 1) 26 6 (.slice pv acc.length cv) acc.length css.flatten := fun ob =>
              (World.ownsRow.kept hI.hrow (row := none) ⟨hbw2.os, hbw2.tape, hbw2.output, hbw2.size, fun k hk _ => hbw2.block k hk⟩ (Classical.em _)).alloc ob
            have HST := Lib.hid (fun g cap wz (ob ob2 : Go.Obj) (h1 : wz.ownsRow (w.heap.size + 1) 26 6 (.slice (some ⟨g, 0, none⟩) (acc.length + 1) cap) (acc.length + 1) (css.flatten ++ objCells o.kind o.n o.g o.s (.slice p1 n1 c1) (.slice p2 n2 c2))) (h2 : ((w2.alloc ob).alloc ob2).grownBy wz (Value.slice pv acc.length cv).ownBlock) (h3 : (Value.slice pv acc.length cv).ownBlock = some g ∨ g = (w2.alloc ob).heap.size + 1) =>
              hI.step (w4 := w2.alloc ob) (ob := ob2) (hbw2.alloc (by have := hbw2.size; omega) ob) (HO2.out ob) hz1 h9 h1 h2 h3)
            have hB2 : w.heap.size + 1 ≤ w2.heap.size := by omega
            have HRW := Lib.hid hrow2
            clear hrow2 hO hbw2
            go_wp2_with (at_builtin; go_must (refine appendO rfl _ _ rfl (w.heap.size + 1) acc.length _ _ ⟨o.kind, o.n, o.g, o.s, p1, n1, c1, p2, n2, c2⟩ (HRW.out _) rfl (w2.heap.size + 1) rfl (by simp) (by omega) (by simp; omega) ?_); intro gz cz wz hownz hgz hatz hltz)
            go_roundw
            case rel => exact ⟨z, fuel, acc ++ [o], _, rfl, by simpa using HST.out _ _ _ _ _ hownz hgz hatz, by omega, HX2⟩
            case measure => simp [intOf]; omega
end Go.Proofs.YtpadlepdgnlgnaaGreatDoor
