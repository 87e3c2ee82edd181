/- The walk of parse's dictionary reader, given the object reader a level further down. -/
import Derived.Test.YtpadlepdgnlgnaaGreatDoorDictD
import Derived.Deep.CutBlock
import Derived.Deep.DeepCutAuto
set_option linter.all false
namespace Go.Proofs.YtpadlepdgnlgnaaGreatDoor
open Go.RowKit Fo Go.Maps

theorem zeroOb (w : World) : (zeroValue 26).run Tryz.prog w = .ok (Obv.val ⟨0, 0, 0, [], none, 0, 0, none, 0, 0⟩) w := by kernel_rfl
set_option maxRecDepth 100000 in
set_option maxHeartbeats 2000000 in
theorem dict_in (s : ByteArray) (m : Int) (d : Nat) (hs : s.size ≤ 140737488355327) (hd : d ≤ 24) (HO : ObjC s m d) : DictC s m d := by
  intro r a0 w ha0 hm0 hr0
  have hlt := hr0.lt
  obtain ⟨T, hT⟩ : ∃ T, dictS (objS d) ((s.data.toList.drop a0).length + 1) (s.data.toList.drop a0) [] = T := ⟨_, rfl⟩
  rw [hT]
  have HT := Lib.hid hT; clear hT
  have HC := Lib.hid HO; clear HO
  have hmm := @run_makeMap Tryz.prog
  go_enter Tryz.func75, Tryz.ntmps75
  go_upto_block 0 with fail
  go_cut [] (fun wx => ∃ (a : Nat) (acc : List (L × Ob)) (vals : List (L × Obv)) (D : DataW Value), DEnd s m d r w wx a acc vals D ∧ Hid (T = .good (acc, s.data.toList.drop a)))
  case first =>
    go_wp2_with fail
    go_loopw [6] (fun _ wr => ∃ (a fuel : Nat) (acc : List (L × Ob)) (vals : List (L × Obv)) (D : DataW Value), DInv s m d r w T wr a fuel acc vals D) (fun _ wr => s.size - rdPos wr r)
    case atStart =>
      refine ⟨a0, _, [], [], .map [], ha0, hr0.below (by repeat' (first | (with_reducible exact Below.refl _ _) | (with_reducible refine Below.drew ?_) | (with_reducible refine belowDrewN ?_ _) | (with_reducible refine belowIter ?_ ?_ _ _) | (with_reducible refine Below.setCell ?_ ?_ _) | (with_reducible refine Below.alloc ?_ ?_ _) | (with_reducible refine Below.trans ?_ (Below.mono hb4 ?_)) | (with_reducible refine Below.trans ?_ (Below.mono hb3 ?_)) | (with_reducible refine Below.trans ?_ (Below.mono hb2 ?_)) | (with_reducible refine Below.trans ?_ (Below.mono hb1 ?_)) | (with_reducible refine Below.trans ?_ (Below.mono hbr ?_)) | (with_reducible refine Below.trans ?_ (Below.mono hb ?_)) | (simp; done) | (simp; omega) | omega)), (Below.heap_alloc _ _ _ (by simp)).trans (heap_new_at _ _ _ rfl), ?_, MapIs.nil, rfl, KidsAt.nil, (by repeat' (first | (with_reducible exact Bes.refl _ _) | (with_reducible refine Bes.drew ?_) | (with_reducible refine Bes.drewN ?_ _) | (with_reducible refine Bes.alloc ?_ _) | (with_reducible refine Bes.setCell ?_ _ _) | (with_reducible refine Bes.setCell_new ?_ ?_ _) | (with_reducible refine Bes.belowB ?_ hb5 ?_) | (with_reducible refine Bes.belowB ?_ hb4 ?_) | (with_reducible refine Bes.belowB ?_ hb3 ?_) | (with_reducible refine Bes.belowB ?_ hb2 ?_) | (with_reducible refine Bes.belowB ?_ hb1 ?_) | (with_reducible refine Bes.belowB ?_ hbr ?_) | (with_reducible refine Bes.belowB ?_ hb ?_) | (with_reducible refine Bes.trans ?_ hs5) | (with_reducible refine Bes.trans ?_ hs4) | (with_reducible refine Bes.trans ?_ hs3) | (with_reducible refine Bes.trans ?_ hs2) | (with_reducible refine Bes.trans ?_ hs1) | (show _ ≤ _; simp; done) | (show _ ≤ _; simp; omega) | omega)), hm0.below (by repeat' (first | (with_reducible exact Below.refl _ _) | (with_reducible refine Below.drew ?_) | (with_reducible refine belowDrewN ?_ _) | (with_reducible refine belowIter ?_ ?_ _ _) | (with_reducible refine Below.setCell ?_ ?_ _) | (with_reducible refine Below.alloc ?_ ?_ _) | (with_reducible refine Below.trans ?_ (Below.mono hb4 ?_)) | (with_reducible refine Below.trans ?_ (Below.mono hb3 ?_)) | (with_reducible refine Below.trans ?_ (Below.mono hb2 ?_)) | (with_reducible refine Below.trans ?_ (Below.mono hb1 ?_)) | (with_reducible refine Below.trans ?_ (Below.mono hbr ?_)) | (with_reducible refine Below.trans ?_ (Below.mono hb ?_)) | (simp; done) | (simp; omega) | omega)), by simp, ?_, HT.out⟩
      · have := World.ownsMap_made (H := Value) (w.alloc (.cells #[.int .i64 0, .int .i64 0, .int .i64 0, .string ⟨#[]⟩, .slice none 0 0, .slice none 0 0] 26)) Tryz.prog 9 obR
        simpa using this
      · simp
    case round =>
      obtain ⟨a, fuel, acc, vals, D, hI⟩ := hrel
      clear HT
      have ha := hI.ha
      have hr := hI.hr
      have hm := hI.hm
      have ltr := hr.lt
      have HPOS := hr.pos
      have ltB : w.heap.size + 1 < wr.heap.size := hI.hown.lt
      obtain ⟨fuel, rfl⟩ : ∃ f, fuel = f + 1 := ⟨fuel - 1, by have := hI.hfu; omega⟩
      cases hn : nextS (s.data.toList.drop a) with
      | bad k =>
        have HX := Lib.hid (hI.H.symm.trans (dictS_bad hn))
        have HN := Lib.hid (rnext_bad r s a k ha hs m wr hm hr hn)
        have hbes := hI.hbes
        clear hn
        go_wp2_with fail
        refine HN.out.mono ?_
        rintro e w1 ⟨rfl, hs1⟩
        go_wp2
        refine ⟨rfl, ?_⟩
        rw [HX.out]
        exact ⟨rfl, (by repeat' (first | (with_reducible exact Bes.refl _ _) | (with_reducible refine Bes.drew ?_) | (with_reducible refine Bes.drewN ?_ _) | (with_reducible refine Bes.alloc ?_ _) | (with_reducible refine Bes.setCell ?_ _ _) | (with_reducible refine Bes.setCell_new ?_ ?_ _) | (with_reducible refine Bes.belowB ?_ hb5 ?_) | (with_reducible refine Bes.belowB ?_ hb4 ?_) | (with_reducible refine Bes.belowB ?_ hb3 ?_) | (with_reducible refine Bes.belowB ?_ hb2 ?_) | (with_reducible refine Bes.belowB ?_ hb1 ?_) | (with_reducible refine Bes.belowB ?_ hbr ?_) | (with_reducible refine Bes.belowB ?_ hb ?_) | (with_reducible refine Bes.trans ?_ hs5) | (with_reducible refine Bes.trans ?_ hs4) | (with_reducible refine Bes.trans ?_ hs3) | (with_reducible refine Bes.trans ?_ hs2) | (with_reducible refine Bes.trans ?_ hs1) | (show _ ≤ _; simp; done) | (show _ ≤ _; simp; omega) | omega))⟩
      | good tr =>
        obtain ⟨t, rest⟩ := tr
        obtain ⟨h1, hk, hrest⟩ := nextS_good hn
        obtain ⟨g1, g2, g3, _⟩ := nextT_good h1
        obtain ⟨g5, g6⟩ := nextS_shorter hn
        obtain ⟨p, hp⟩ : ∃ p, a + (nextT (s.data.toList.drop a)).1 = p := ⟨_, rfl⟩
        have HN := Lib.hid (rnext_good r s a p t ha hs m wr hm hr h1 hk hp)
        simp only [List.length_drop, Array.length_toList, show s.data.size = s.size from rfl] at g1
        have hq : p + t.len ≤ s.size := by omega
        rw [List.drop_drop, ← Nat.add_assoc, hp] at hrest
        subst hrest
        have hqa : a < p + t.len := by simp only [List.length_drop, Array.length_toList, show s.data.size = s.size from rfl] at g5; omega
        obtain ⟨q, hq'⟩ : ∃ q, p + t.len = q := ⟨_, rfl⟩
        rw [hq'] at hq hqa hn
        unfold tkV at HN
        rw [hq'] at HN
        have hsh := nextT_short h1
        clear g1 g5 h1 hp
        have neB0 : w.heap.size ≠ r := by omega
        have neB1 : w.heap.size + 1 ≠ r := by omega
        cases hw : (t.kind == 6 && t.s == [62, 62]) with
        | true =>
          have HX := Lib.hid (hI.H.symm.trans (dictS_end hn hw))
          have HW := Lib.hid hw
          clear hn hw
          go_wp2_with fail
          refine HN.out.mono ?_
          rintro e w1 ⟨rfl, hr1, hs1⟩
          go_wp2_with fail
          refine (word_in' _ _ _ _ _ _ _ true HW.out _).mono ?_
          rintro e w2 ⟨rfl, hb2⟩
          have hbw : Bes r wr w2 := hs1.trans ((by repeat' (first | (with_reducible exact Bes.refl _ _) | (with_reducible refine Bes.drew ?_) | (with_reducible refine Bes.drewN ?_ _) | (with_reducible refine Bes.alloc ?_ _) | (with_reducible refine Bes.setCell ?_ _ _) | (with_reducible refine Bes.setCell_new ?_ ?_ _) | (with_reducible refine Bes.belowB ?_ hb5 ?_) | (with_reducible refine Bes.belowB ?_ hb4 ?_) | (with_reducible refine Bes.belowB ?_ hb3 ?_) | (with_reducible refine Bes.belowB ?_ hb2 ?_) | (with_reducible refine Bes.belowB ?_ hb1 ?_) | (with_reducible refine Bes.belowB ?_ hbr ?_) | (with_reducible refine Bes.belowB ?_ hb ?_) | (with_reducible refine Bes.trans ?_ hs5) | (with_reducible refine Bes.trans ?_ hs4) | (with_reducible refine Bes.trans ?_ hs3) | (with_reducible refine Bes.trans ?_ hs2) | (with_reducible refine Bes.trans ?_ hs1) | (show _ ≤ _; simp; done) | (show _ ≤ _; simp; omega) | omega)))
          have hr2 : RdAt w2 r s q := hr1.below (w' := w2) (by repeat' (first | (with_reducible exact Below.refl _ _) | (with_reducible refine Below.drew ?_) | (with_reducible refine belowDrewN ?_ _) | (with_reducible refine belowIter ?_ ?_ _ _) | (with_reducible refine Below.setCell ?_ ?_ _) | (with_reducible refine Below.alloc ?_ ?_ _) | (with_reducible refine Below.trans ?_ (Below.mono hb4 ?_)) | (with_reducible refine Below.trans ?_ (Below.mono hb3 ?_)) | (with_reducible refine Below.trans ?_ (Below.mono hb2 ?_)) | (with_reducible refine Below.trans ?_ (Below.mono hb1 ?_)) | (with_reducible refine Below.trans ?_ (Below.mono hbr ?_)) | (with_reducible refine Below.trans ?_ (Below.mono hb ?_)) | (simp; done) | (simp; omega) | omega))
          go_wp2
          go_meet
          case rel => exact ⟨q, acc, vals, D, hI.ended hlt hbw hr2 hq, HX⟩
        | false =>
          have HW := Lib.hid hw
          obtain ⟨bt, hbt⟩ : ∃ bt, acc.any (fun p => p.1 == t.s) = bt := ⟨_, rfl⟩
          have HBT := Lib.hid hbt
          by_cases hk4 : t.kind = 4
          · have e4 : (t.kind != 4) = false := by simpa using hk4
            cases bt with
            | true =>
              have HX := Lib.hid (hI.H.symm.trans (dictS_twice hn hw hk4 hbt))
              clear hn hw hbt hk4
              go_wp2_with fail
              refine HN.out.mono ?_
              rintro e w1 ⟨rfl, hr1, hs1⟩
              go_wp2_with fail
              refine (word_in' _ _ _ _ _ _ _ false HW.out _).mono ?_
              rintro e w2 ⟨rfl, hb2⟩
              have hlt1 := hs1.size
              have hlt2 : w1.heap.size + 1 ≤ w2.heap.size := by have := hb2.size; simp at this; omega
              have k2 := (hb2.block w1.heap.size (by simp)).trans (heap_new_at w1 _ _ rfl)
              obtain ⟨tt, htt⟩ : ∃ tt, w1.heap.size = tt := ⟨_, rfl⟩
              rw [htt] at k2 hlt2
              rw [htt]
              obtain ⟨c0, c1, c2, c3, c4, cf⟩ := five_of k2
              have ltt : wr.heap.size ≤ tt := by omega
              have httw : tt < w2.heap.size := by omega
              have hbw : Bes r wr w2 := hs1.trans ((by repeat' (first | (with_reducible exact Bes.refl _ _) | (with_reducible refine Bes.drew ?_) | (with_reducible refine Bes.drewN ?_ _) | (with_reducible refine Bes.alloc ?_ _) | (with_reducible refine Bes.setCell ?_ _ _) | (with_reducible refine Bes.setCell_new ?_ ?_ _) | (with_reducible refine Bes.belowB ?_ hb5 ?_) | (with_reducible refine Bes.belowB ?_ hb4 ?_) | (with_reducible refine Bes.belowB ?_ hb3 ?_) | (with_reducible refine Bes.belowB ?_ hb2 ?_) | (with_reducible refine Bes.belowB ?_ hb1 ?_) | (with_reducible refine Bes.belowB ?_ hbr ?_) | (with_reducible refine Bes.belowB ?_ hb ?_) | (with_reducible refine Bes.trans ?_ hs5) | (with_reducible refine Bes.trans ?_ hs4) | (with_reducible refine Bes.trans ?_ hs3) | (with_reducible refine Bes.trans ?_ hs2) | (with_reducible refine Bes.trans ?_ hs1) | (show _ ≤ _; simp; done) | (show _ ≤ _; simp; omega) | omega)))
              have hr2 : RdAt w2 r s q := hr1.below (w' := w2) (by repeat' (first | (with_reducible exact Below.refl _ _) | (with_reducible refine Below.drew ?_) | (with_reducible refine belowDrewN ?_ _) | (with_reducible refine belowIter ?_ ?_ _ _) | (with_reducible refine Below.setCell ?_ ?_ _) | (with_reducible refine Below.alloc ?_ ?_ _) | (with_reducible refine Below.trans ?_ (Below.mono hb4 ?_)) | (with_reducible refine Below.trans ?_ (Below.mono hb3 ?_)) | (with_reducible refine Below.trans ?_ (Below.mono hb2 ?_)) | (with_reducible refine Below.trans ?_ (Below.mono hb1 ?_)) | (with_reducible refine Below.trans ?_ (Below.mono hbr ?_)) | (with_reducible refine Below.trans ?_ (Below.mono hb ?_)) | (simp; done) | (simp; omega) | omega))
              have hown2 := ownMap_bes hI.hown hbw (by omega)
              obtain ⟨v0, ps0, hrun0, hv0⟩ := hown2.look_ok Tryz.keyed Tryz.underlying120 (zeroOb w2) (obR_val _) (Go.WideMaps.keyOf_string_mk (s := ⟨t.s.toArray⟩) Tryz.underlying9 (by show t.s.length ≤ maxLen; unfold maxLen; omega))
              obtain ⟨x0, rfl, _⟩ := obR_inv hv0
              rw [show Maps.has D (.string (⟨t.s.toArray⟩ : ByteArray).data.toList) = _ from ((hI.hmi.has t.s).trans (any_keys hI.hkeys t.s)).trans HBT.out] at hrun0
              unfold Obv.val at hrun0
              have hsz : (Maps.size D : Int) = acc.length := by rw [hI.hmi.size]; have := congrArg List.length hI.hkeys; simp at this; omega
              have HSZ := Lib.hid hsz
              clear hv0 hsz
              go_wp2
              exact ⟨rfl, by rw [HX.out]; exact ⟨rfl, (hI.hbes.trans hbw).trans (.of_below (by repeat' (first | (with_reducible exact Below.refl _ _) | (with_reducible refine Below.drew ?_) | (with_reducible refine belowDrewN ?_ _) | (with_reducible refine belowIter ?_ ?_ _ _) | (with_reducible refine Below.setCell ?_ ?_ _) | (with_reducible refine Below.alloc ?_ ?_ _) | (with_reducible refine Below.trans ?_ (Below.mono hb4 ?_)) | (with_reducible refine Below.trans ?_ (Below.mono hb3 ?_)) | (with_reducible refine Below.trans ?_ (Below.mono hb2 ?_)) | (with_reducible refine Below.trans ?_ (Below.mono hb1 ?_)) | (with_reducible refine Below.trans ?_ (Below.mono hbr ?_)) | (with_reducible refine Below.trans ?_ (Below.mono hb ?_)) | (simp; done) | (simp; omega) | omega)))⟩⟩
            | false =>
              by_cases h9 : 8191 ≤ acc.length
              · have HX := Lib.hid (hI.H.symm.trans (dictS_many hn hw hk4 hbt h9))
                have e9 : decide ((acc.length : Int) ≥ 8191) = true := by simp; omega
                clear hn hw hbt hk4
                go_wp2_with fail
                refine HN.out.mono ?_
                rintro e w1 ⟨rfl, hr1, hs1⟩
                go_wp2_with fail
                refine (word_in' _ _ _ _ _ _ _ false HW.out _).mono ?_
                rintro e w2 ⟨rfl, hb2⟩
                have hlt1 := hs1.size
                have hlt2 : w1.heap.size + 1 ≤ w2.heap.size := by have := hb2.size; simp at this; omega
                have k2 := (hb2.block w1.heap.size (by simp)).trans (heap_new_at w1 _ _ rfl)
                obtain ⟨tt, htt⟩ : ∃ tt, w1.heap.size = tt := ⟨_, rfl⟩
                rw [htt] at k2 hlt2
                rw [htt]
                obtain ⟨c0, c1, c2, c3, c4, cf⟩ := five_of k2
                have ltt : wr.heap.size ≤ tt := by omega
                have httw : tt < w2.heap.size := by omega
                have hbw : Bes r wr w2 := hs1.trans ((by repeat' (first | (with_reducible exact Bes.refl _ _) | (with_reducible refine Bes.drew ?_) | (with_reducible refine Bes.drewN ?_ _) | (with_reducible refine Bes.alloc ?_ _) | (with_reducible refine Bes.setCell ?_ _ _) | (with_reducible refine Bes.setCell_new ?_ ?_ _) | (with_reducible refine Bes.belowB ?_ hb5 ?_) | (with_reducible refine Bes.belowB ?_ hb4 ?_) | (with_reducible refine Bes.belowB ?_ hb3 ?_) | (with_reducible refine Bes.belowB ?_ hb2 ?_) | (with_reducible refine Bes.belowB ?_ hb1 ?_) | (with_reducible refine Bes.belowB ?_ hbr ?_) | (with_reducible refine Bes.belowB ?_ hb ?_) | (with_reducible refine Bes.trans ?_ hs5) | (with_reducible refine Bes.trans ?_ hs4) | (with_reducible refine Bes.trans ?_ hs3) | (with_reducible refine Bes.trans ?_ hs2) | (with_reducible refine Bes.trans ?_ hs1) | (show _ ≤ _; simp; done) | (show _ ≤ _; simp; omega) | omega)))
                have hr2 : RdAt w2 r s q := hr1.below (w' := w2) (by repeat' (first | (with_reducible exact Below.refl _ _) | (with_reducible refine Below.drew ?_) | (with_reducible refine belowDrewN ?_ _) | (with_reducible refine belowIter ?_ ?_ _ _) | (with_reducible refine Below.setCell ?_ ?_ _) | (with_reducible refine Below.alloc ?_ ?_ _) | (with_reducible refine Below.trans ?_ (Below.mono hb4 ?_)) | (with_reducible refine Below.trans ?_ (Below.mono hb3 ?_)) | (with_reducible refine Below.trans ?_ (Below.mono hb2 ?_)) | (with_reducible refine Below.trans ?_ (Below.mono hb1 ?_)) | (with_reducible refine Below.trans ?_ (Below.mono hbr ?_)) | (with_reducible refine Below.trans ?_ (Below.mono hb ?_)) | (simp; done) | (simp; omega) | omega))
                have hown2 := ownMap_bes hI.hown hbw (by omega)
                obtain ⟨v0, ps0, hrun0, hv0⟩ := hown2.look_ok Tryz.keyed Tryz.underlying120 (zeroOb w2) (obR_val _) (Go.WideMaps.keyOf_string_mk (s := ⟨t.s.toArray⟩) Tryz.underlying9 (by show t.s.length ≤ maxLen; unfold maxLen; omega))
                obtain ⟨x0, rfl, _⟩ := obR_inv hv0
                rw [show Maps.has D (.string (⟨t.s.toArray⟩ : ByteArray).data.toList) = _ from ((hI.hmi.has t.s).trans (any_keys hI.hkeys t.s)).trans HBT.out] at hrun0
                unfold Obv.val at hrun0
                have hsz : (Maps.size D : Int) = acc.length := by rw [hI.hmi.size]; have := congrArg List.length hI.hkeys; simp at this; omega
                have HSZ := Lib.hid hsz
                clear hv0 hsz
                go_wp2_with (at_len; refine wpList_len_own _ rfl _ 120 rfl 9 26 Tryz.underlying120 obR (w.heap.size + 1) acc.length D rfl (hown2.alloc _) ?_; rw [HSZ.out])
                exact ⟨rfl, by rw [HX.out]; exact ⟨rfl, (hI.hbes.trans hbw).trans (.of_below (by repeat' (first | (with_reducible exact Below.refl _ _) | (with_reducible refine Below.drew ?_) | (with_reducible refine belowDrewN ?_ _) | (with_reducible refine belowIter ?_ ?_ _ _) | (with_reducible refine Below.setCell ?_ ?_ _) | (with_reducible refine Below.alloc ?_ ?_ _) | (with_reducible refine Below.trans ?_ (Below.mono hb4 ?_)) | (with_reducible refine Below.trans ?_ (Below.mono hb3 ?_)) | (with_reducible refine Below.trans ?_ (Below.mono hb2 ?_)) | (with_reducible refine Below.trans ?_ (Below.mono hb1 ?_)) | (with_reducible refine Below.trans ?_ (Below.mono hbr ?_)) | (with_reducible refine Below.trans ?_ (Below.mono hb ?_)) | (simp; done) | (simp; omega) | omega)))⟩⟩
              · have e9 : decide ((acc.length : Int) ≥ 8191) = false := by simp; omega
                have hHid := Lib.hid hI.H
                have HNX := Lib.hid (fun W hW hR => dict_next s hs m d fuel r a q acc T HC.out t hn hw hk4 hbt h9 hHid hq W hW hR)
                clear hn hw hk4 hHid hbt
                go_wp2_with fail
                refine HN.out.mono ?_
                rintro e w1 ⟨rfl, hr1, hs1⟩
                go_wp2_with fail
                refine (word_in' _ _ _ _ _ _ _ false HW.out _).mono ?_
                rintro e w2 ⟨rfl, hb2⟩
                have hlt1 := hs1.size
                have hlt2 : w1.heap.size + 1 ≤ w2.heap.size := by have := hb2.size; simp at this; omega
                have k2 := (hb2.block w1.heap.size (by simp)).trans (heap_new_at w1 _ _ rfl)
                obtain ⟨tt, htt⟩ : ∃ tt, w1.heap.size = tt := ⟨_, rfl⟩
                rw [htt] at k2 hlt2
                rw [htt]
                obtain ⟨c0, c1, c2, c3, c4, cf⟩ := five_of k2
                have ltt : wr.heap.size ≤ tt := by omega
                have httw : tt < w2.heap.size := by omega
                have hbw : Bes r wr w2 := hs1.trans ((by repeat' (first | (with_reducible exact Bes.refl _ _) | (with_reducible refine Bes.drew ?_) | (with_reducible refine Bes.drewN ?_ _) | (with_reducible refine Bes.alloc ?_ _) | (with_reducible refine Bes.setCell ?_ _ _) | (with_reducible refine Bes.setCell_new ?_ ?_ _) | (with_reducible refine Bes.belowB ?_ hb5 ?_) | (with_reducible refine Bes.belowB ?_ hb4 ?_) | (with_reducible refine Bes.belowB ?_ hb3 ?_) | (with_reducible refine Bes.belowB ?_ hb2 ?_) | (with_reducible refine Bes.belowB ?_ hb1 ?_) | (with_reducible refine Bes.belowB ?_ hbr ?_) | (with_reducible refine Bes.belowB ?_ hb ?_) | (with_reducible refine Bes.trans ?_ hs5) | (with_reducible refine Bes.trans ?_ hs4) | (with_reducible refine Bes.trans ?_ hs3) | (with_reducible refine Bes.trans ?_ hs2) | (with_reducible refine Bes.trans ?_ hs1) | (show _ ≤ _; simp; done) | (show _ ≤ _; simp; omega) | omega)))
                have hr2 : RdAt w2 r s q := hr1.below (w' := w2) (by repeat' (first | (with_reducible exact Below.refl _ _) | (with_reducible refine Below.drew ?_) | (with_reducible refine belowDrewN ?_ _) | (with_reducible refine belowIter ?_ ?_ _ _) | (with_reducible refine Below.setCell ?_ ?_ _) | (with_reducible refine Below.alloc ?_ ?_ _) | (with_reducible refine Below.trans ?_ (Below.mono hb4 ?_)) | (with_reducible refine Below.trans ?_ (Below.mono hb3 ?_)) | (with_reducible refine Below.trans ?_ (Below.mono hb2 ?_)) | (with_reducible refine Below.trans ?_ (Below.mono hb1 ?_)) | (with_reducible refine Below.trans ?_ (Below.mono hbr ?_)) | (with_reducible refine Below.trans ?_ (Below.mono hb ?_)) | (simp; done) | (simp; omega) | omega))
                have hown2 := ownMap_bes hI.hown hbw (by omega)
                obtain ⟨v0, ps0, hrun0, hv0⟩ := hown2.look_ok Tryz.keyed Tryz.underlying120 (zeroOb w2) (obR_val _) (Go.WideMaps.keyOf_string_mk (s := ⟨t.s.toArray⟩) Tryz.underlying9 (by show t.s.length ≤ maxLen; unfold maxLen; omega))
                obtain ⟨x0, rfl, _⟩ := obR_inv hv0
                rw [show Maps.has D (.string (⟨t.s.toArray⟩ : ByteArray).data.toList) = _ from ((hI.hmi.has t.s).trans (any_keys hI.hkeys t.s)).trans HBT.out] at hrun0
                unfold Obv.val at hrun0
                have hsz : (Maps.size D : Int) = acc.length := by rw [hI.hmi.size]; have := congrArg List.length hI.hkeys; simp at this; omega
                have HSZ := Lib.hid hsz
                clear hv0 hsz
                go_wp2_with (at_len; refine wpList_len_own _ rfl _ 120 rfl 9 26 Tryz.underlying120 obR (w.heap.size + 1) acc.length D rfl (hown2.alloc _) ?_; rw [HSZ.out])
                obtain ⟨w3, hw3⟩ : ∃ w3, w2.alloc (.cells #[.int .i64 x0.k, .int .i64 x0.n, .int .i64 x0.g, .string ⟨x0.s.toArray⟩, .slice x0.p1 x0.n1 x0.c1, .slice x0.p2 x0.n2 x0.c2] 26) = w3 := ⟨_, rfl⟩
                rw [hw3]
                have hb3 : Below w2.heap.size w2 w3 := hw3 ▸ (by repeat' (first | (with_reducible exact Below.refl _ _) | (with_reducible refine Below.drew ?_) | (with_reducible refine belowDrewN ?_ _) | (with_reducible refine belowIter ?_ ?_ _ _) | (with_reducible refine Below.setCell ?_ ?_ _) | (with_reducible refine Below.alloc ?_ ?_ _) | (with_reducible refine Below.trans ?_ (Below.mono hb4 ?_)) | (with_reducible refine Below.trans ?_ (Below.mono hb3 ?_)) | (with_reducible refine Below.trans ?_ (Below.mono hb2 ?_)) | (with_reducible refine Below.trans ?_ (Below.mono hb1 ?_)) | (with_reducible refine Below.trans ?_ (Below.mono hbr ?_)) | (with_reducible refine Below.trans ?_ (Below.mono hb ?_)) | (simp; done) | (simp; omega) | omega))
                have hs3 : Bes r wr w3.drew := (hbw.trans (.of_below hb3)).drew
                have hr3 : RdAt w3.drew r s q := RdAt.below (w' := w3) hr2 hb3
                have hm3 : MaxW w3.drew m := hm.bes hs3 (hm.ne hr)
                have HNC := HNX.out _ hm3 hr3
                have d4 : w3.drew.cell? ⟨tt, 4, none⟩ = some (.string ⟨t.s.toArray⟩) := (hb3.cell (p := ⟨tt, 4, none⟩) httw).trans c4
                have htt3 : tt < w3.drew.heap.size := Nat.lt_of_lt_of_le httw hb3.size
                clear hw3 hb3 c0 c1 c2 c3 c4 cf hrun0 k2 hb2 htt hr1 hs1 hr2 hown2 hbw
                go_region_law (first
                  | (go_simp; go_at_call 37; refine HNC.mono ?_; rintro e w4 (⟨k, rfl, HX, hs4⟩ | ⟨t2, p2, q2, rfl, hq2, hR4, hs4, HF⟩); exact ⟨rfl, by rw [HX.out]; exact ⟨rfl, (hI.hbes.trans hs3).trans hs4⟩⟩; have hm4 : MaxW w4 m := hm3.bes hs4 (hm3.ne hr3); have HOb := HF.out _ hm4 hR4; have d44 : w4.cell? ⟨tt, 4, none⟩ = some (.string ⟨t.s.toArray⟩) := (World.cell?_of_block (hs4.block _ htt3 (by show tt ≠ r; omega))).trans d4; have htt4 : tt < w4.heap.size := Nat.lt_of_lt_of_le htt3 hs4.size)
                  | (go_simp; go_at_call 36; refine HOb.mono ?_; rintro e w5 (⟨k, rfl, HX, hs5⟩ | ⟨o, p1, n1, c1, p2, n2, c2, z, rfl, hz1, hz2, HX, hO, hR5, hs5⟩); exact ⟨rfl, by rw [HX.out]; exact ⟨rfl, ((hI.hbes.trans hs3).trans hs4).trans hs5⟩⟩; have d45 : w5.cell? ⟨tt, 4, none⟩ = some (.string ⟨t.s.toArray⟩) := (World.cell?_of_block (hs5.block _ htt4 (by show tt ≠ r; omega))).trans d44; have hs05 := (hs3.trans hs4).trans hs5
                     obtain ⟨w6, hrun6, hown6, hg6⟩ := (ownMap_bes hI.hown hs05 (by omega)).update Tryz.keyed Tryz.underlying120 (by unfold maxLen; omega) (Go.WideMaps.keyOf_string_mk (s := ⟨t.s.toArray⟩) Tryz.underlying9 (by show t.s.length ≤ maxLen; unfold maxLen; omega)) (obR_val ⟨o.kind, o.n, o.g, o.s, p1, n1, c1, p2, n2, c2⟩)
                     have HST := Lib.hid (hI.step hlt (hs3.trans hs4) hs5 hO hR5 hz1 (by omega) h9 HBT.out hown6 hg6 HX.out)
                     unfold Obv.val at hrun6))
                all_goals go_wp2_with fail
                all_goals (go_roundw; (case rel => exact ⟨z, fuel, _, _, _, HST.out⟩); (case measure => (rw [HPOS, HST.out.hr.pos]; omega)))
          · have HX := Lib.hid (hI.H.symm.trans (dictS_kind hn hw hk4))
            have e4 : (t.kind != 4) = true := by simpa using hk4
            clear hn hw hbt
            go_wp2_with fail
            refine HN.out.mono ?_
            rintro e w1 ⟨rfl, hr1, hs1⟩
            go_wp2_with fail
            refine (word_in' _ _ _ _ _ _ _ false HW.out _).mono ?_
            rintro e w2 ⟨rfl, hb2⟩
            have hlt1 := hs1.size
            have hlt2 : w1.heap.size + 1 ≤ w2.heap.size := by have := hb2.size; simp at this; omega
            have k2 := (hb2.block w1.heap.size (by simp)).trans (heap_new_at w1 _ _ rfl)
            obtain ⟨tt, htt⟩ : ∃ tt, w1.heap.size = tt := ⟨_, rfl⟩
            rw [htt] at k2 hlt2
            rw [htt]
            obtain ⟨c0, c1, c2, c3, c4, cf⟩ := five_of k2
            have ltt : wr.heap.size ≤ tt := by omega
            have httw : tt < w2.heap.size := by omega
            have hbw : Bes r wr w2 := hs1.trans ((by repeat' (first | (with_reducible exact Bes.refl _ _) | (with_reducible refine Bes.drew ?_) | (with_reducible refine Bes.drewN ?_ _) | (with_reducible refine Bes.alloc ?_ _) | (with_reducible refine Bes.setCell ?_ _ _) | (with_reducible refine Bes.setCell_new ?_ ?_ _) | (with_reducible refine Bes.belowB ?_ hb5 ?_) | (with_reducible refine Bes.belowB ?_ hb4 ?_) | (with_reducible refine Bes.belowB ?_ hb3 ?_) | (with_reducible refine Bes.belowB ?_ hb2 ?_) | (with_reducible refine Bes.belowB ?_ hb1 ?_) | (with_reducible refine Bes.belowB ?_ hbr ?_) | (with_reducible refine Bes.belowB ?_ hb ?_) | (with_reducible refine Bes.trans ?_ hs5) | (with_reducible refine Bes.trans ?_ hs4) | (with_reducible refine Bes.trans ?_ hs3) | (with_reducible refine Bes.trans ?_ hs2) | (with_reducible refine Bes.trans ?_ hs1) | (show _ ≤ _; simp; done) | (show _ ≤ _; simp; omega) | omega)))
            have hr2 : RdAt w2 r s q := hr1.below (w' := w2) (by repeat' (first | (with_reducible exact Below.refl _ _) | (with_reducible refine Below.drew ?_) | (with_reducible refine belowDrewN ?_ _) | (with_reducible refine belowIter ?_ ?_ _ _) | (with_reducible refine Below.setCell ?_ ?_ _) | (with_reducible refine Below.alloc ?_ ?_ _) | (with_reducible refine Below.trans ?_ (Below.mono hb4 ?_)) | (with_reducible refine Below.trans ?_ (Below.mono hb3 ?_)) | (with_reducible refine Below.trans ?_ (Below.mono hb2 ?_)) | (with_reducible refine Below.trans ?_ (Below.mono hb1 ?_)) | (with_reducible refine Below.trans ?_ (Below.mono hbr ?_)) | (with_reducible refine Below.trans ?_ (Below.mono hb ?_)) | (simp; done) | (simp; omega) | omega))
            have hown2 := ownMap_bes hI.hown hbw (by omega)
            obtain ⟨v0, ps0, hrun0, hv0⟩ := hown2.look_ok Tryz.keyed Tryz.underlying120 (zeroOb w2) (obR_val _) (Go.WideMaps.keyOf_string_mk (s := ⟨t.s.toArray⟩) Tryz.underlying9 (by show t.s.length ≤ maxLen; unfold maxLen; omega))
            obtain ⟨x0, rfl, _⟩ := obR_inv hv0
            rw [show Maps.has D (.string (⟨t.s.toArray⟩ : ByteArray).data.toList) = _ from ((hI.hmi.has t.s).trans (any_keys hI.hkeys t.s)).trans HBT.out] at hrun0
            unfold Obv.val at hrun0
            have hsz : (Maps.size D : Int) = acc.length := by rw [hI.hmi.size]; have := congrArg List.length hI.hkeys; simp at this; omega
            have HSZ := Lib.hid hsz
            clear hv0 hsz
            go_wp2
            exact ⟨rfl, by rw [HX.out]; exact ⟨rfl, (hI.hbes.trans hbw).trans (.of_below (by repeat' (first | (with_reducible exact Below.refl _ _) | (with_reducible refine Below.drew ?_) | (with_reducible refine belowDrewN ?_ _) | (with_reducible refine belowIter ?_ ?_ _ _) | (with_reducible refine Below.setCell ?_ ?_ _) | (with_reducible refine Below.alloc ?_ ?_ _) | (with_reducible refine Below.trans ?_ (Below.mono hb4 ?_)) | (with_reducible refine Below.trans ?_ (Below.mono hb3 ?_)) | (with_reducible refine Below.trans ?_ (Below.mono hb2 ?_)) | (with_reducible refine Below.trans ?_ (Below.mono hb1 ?_)) | (with_reducible refine Below.trans ?_ (Below.mono hbr ?_)) | (with_reducible refine Below.trans ?_ (Below.mono hb ?_)) | (simp; done) | (simp; omega) | omega)))⟩⟩
  case rest =>
    obtain ⟨a, acc, vals, D, hE, HT2⟩ := hcut
    obtain ⟨wo, rfl⟩ : ∃ wo : World, wo = wc := ⟨_, rfl⟩
    have hbm := hE.hown.lt
    have hownX := hE.hown.alloc (.cells #[.int .i64 7, .int .i64 0, .int .i64 0, .string ⟨#[]⟩, .slice none 0 0, .slice none 0 0] 26)
    go_upto_block 3 with (at_range; refine wpList_range_own _ rfl _ 120 rfl 9 26 Tryz.keyed Tryz.underlying120 obR (w.heap.size + 1) acc.length D rfl hownX ?_; intro w0 hrg0 hg0 hs0)
    go_frame
    have hri : w0.ranges Tryz.prog 9 obR (w.heap.size + 1) (wo.heap.size + 1) acc.length D (Maps.has D) (Maps.size D) := by simpa using hrg0
    have hR0 : RInv wo (w.heap.size + 1) acc.length vals D w0 (Maps.has D) (Maps.size D) [] (.slice none 0 0) := by
      refine ⟨hbm, hri, Collected.start D, ?_, ownS_nil _ _, ?_, by simp⟩
      · rw [hg0.block _ (by simp) (by simp)]; exact heap_new_at _ _ _ rfl
      · exact (show Below wo.heap.size wo (wo.alloc _) from (by repeat' (first | (with_reducible exact Below.refl _ _) | (with_reducible refine Below.drew ?_) | (with_reducible refine belowDrewN ?_ _) | (with_reducible refine belowIter ?_ ?_ _ _) | (with_reducible refine Below.setCell ?_ ?_ _) | (with_reducible refine Below.alloc ?_ ?_ _) | (with_reducible refine Below.trans ?_ (Below.mono hb4 ?_)) | (with_reducible refine Below.trans ?_ (Below.mono hb3 ?_)) | (with_reducible refine Below.trans ?_ (Below.mono hb2 ?_)) | (with_reducible refine Below.trans ?_ (Below.mono hb1 ?_)) | (with_reducible refine Below.trans ?_ (Below.mono hbr ?_)) | (with_reducible refine Below.trans ?_ (Below.mono hb ?_)) | (simp; done) | (simp; omega) | omega))).grown hg0 (by simp) (by simp)
    clear hrg0 hg0 hs0 hownX hri
    rw [show (wo.alloc (.cells #[.int .i64 7, .int .i64 0, .int .i64 0, .string ⟨#[]⟩, .slice none 0 0, .slice none 0 0] 26)).heap.size = wo.heap.size + 1 by simp]
    have hDs : Maps.size D ≤ 8191 := by rw [hE.hmi.size]; have := congrArg List.length hE.hkeys; simp at this; have := hE.hlen; omega
    go_cut [] (fun wx => ∃ (sa : List L) (v : Value), Below wo.heap.size wo wx ∧ wo.heap.size + 2 ≤ wx.heap.size ∧ wx.heap[wo.heap.size]? = some (.cells #[.int .i64 7, .int .i64 0, .int .i64 0, .string ⟨#[]⟩, v, .slice none 0 0] 26 (0, 0)) ∧ ownS wx (wo.heap.size + 2) v (sa.filter (keepB vals)) ∧ Hid (sa.Perm (strKeys D)))
    case first =>
      go_wp2_with fail
      go_loopw [] (fun wr => ∃ (left : Lit → Bool) (cnt : Nat) (sa : List L) (v : Value), RInv wo (w.heap.size + 1) acc.length vals D wr left cnt sa v) (fun wr => wr.rangeLeft (w.heap.size + 1) (wo.heap.size + 1))
      case atStart => exact ⟨_, _, _, _, hR0⟩
      case round =>
        obtain ⟨left, cnt, sa, v, hI⟩ := hrel
        have hrg := hI.hrg
        go_wp2_with (at_next; refine wpList_next_ranges _ rfl _ rfl 9 Tryz.keyed obR encStr Obv.val (fun key kl hk => by obtain ⟨x, hx, _⟩ := Maps.keyOf_str Tryz.underlying9 hk; exact ⟨x, hx⟩) (fun v y hv => by obtain ⟨c, hc, _⟩ := obR_inv hv; exact ⟨c, hc⟩) (w.heap.size + 1) (wo.heap.size + 1) acc.length D left cnt rfl hrg ?_ ?_)
        · intro hc0 hl0
          go_wp2
          go_meet
          case rel => exact ⟨sa, v, hI.hb, hI.hrg.lt, hI.hob, hI.hown, Lib.hid (hI.hC.perm hI.hrg.owns Tryz.keyed Tryz.underlying9 hl0)⟩
        · intro x c kl yd yp w2 cnt2 hkey hlk hv hat hrg2 hlt2 hg2 hs2 hen
          obtain ⟨x', ex, rfl, _⟩ := Maps.keyOf_str Tryz.underlying9 hkey
          obtain rfl : x = x' := encStr_inj ex
          have hat' : ∀ zd, D.atKey (.string x) zd = .held c.val := fun zd => by
            rw [hat zd]; rw [obR_val] at hv; simp at hv; exact hv.1.symm
          have hkp := (keepB_at hE.hmi (has_true_of_atKey hat) hat').1
          have hl1 := hrg2.lt
          have hnz : wo.heap.size < w2.heap.size := by omega
          have hl2 : sa.length ≤ 8191 := by have := hI.hcnt; omega
          have hfl : (sa.filter (keepB vals)).length ≤ 100000 := Nat.le_trans (List.length_filter_le _ _) (by omega)
          have HME := Lib.hid (And.intro hrg.left_eq hrg2.left_eq)
          have c4 : w2.heap[wo.heap.size]? = some (.cells #[.int .i64 7, .int .i64 0, .int .i64 0, .string ⟨#[]⟩, v, .slice none 0 0] 26 (0, 0)) := by
            rw [hg2.block _ (by have := hI.hrg.lt; omega) (by simp)]; exact hI.hob
          have hown2 : ownS w2 (wo.heap.size + 2) v (sa.filter (keepB vals)) := World.ownsRow.kept hI.hown hg2 (.inr (by intro h; have := own_base hI.hown _ h; omega))
          obtain ⟨q0, q1, q2, q3, q4, q5, qf⟩ := six_of c4
          have HHAT := Lib.hid hat'
          have HC4 := Lib.hid c4
          unfold Obv.val at hen
          unfold Obv.val
          clear hs2 hat hv hkey hat' c4
          cases hk0 : (c.k != 0) with
          | false =>
            have HI2 := Lib.hid (fun o => hI.skip hlk HHAT.out hrg2 hlt2 hg2 (hkp.trans hk0) o)
            clear hkp
            go_wp2
            go_roundw
            case rel => exact ⟨_, _, _, _, HI2.out _⟩
            case measure => rw [HME.out.1, (HI2.out _).hrg.left_eq]; omega
          | true =>
            have hkp2 := hkp.trans hk0
            clear hkp
            go_wp2_with (at_builtin; go_must (refine appendS rfl _ _ rfl (wo.heap.size + 2) v (sa.filter (keepB vals)) x (ownS_alloc hown2 _) rfl (w2.heap.size + 1) rfl (by simp) hfl (by simp; omega) ?_); intro pz cz wz hown' hbz hlz; have c4z : wz.heap[wo.heap.size]? = some (.cells #[.int .i64 7, .int .i64 0, .int .i64 0, .string ⟨#[]⟩, v, .slice none 0 0] 26 (0, 0)) := (hbz.block _ (by omega)).trans ((Below.heap_alloc _ _ _ hnz).trans HC4.out); obtain ⟨z0, z1, z2, z3, z4, z5, zf⟩ := six_of c4z)
            go_roundw
            case rel => exact ⟨_, _, _, _, hI.push hlk HHAT.out hrg2 hlt2 hg2 hkp2 _ hbz hown'⟩
            case measure => rw [HME.out.1, (hI.push hlk HHAT.out hrg2 hlt2 hg2 hkp2 _ hbz hown').hrg.left_eq]; omega
    case rest =>
      obtain ⟨sa, v, hbx, hls, hob, hown, HP⟩ := hcut
      obtain ⟨ss, hss⟩ : ∃ ss, sa.filter (keepB vals) = ss := ⟨_, rfl⟩
      have HSS := Lib.hid hss
      rw [hss] at hown
      have hsl : ss.length ≤ 8191 := by
        rw [← hss]
        have h1 := List.length_filter_le (keepB vals) sa
        have h2 := HP.out.length_eq
        have h3 : (strKeys D).length = Maps.size D := by
          obtain ⟨es, he⟩ := hE.hmi.tidy.isMap; rw [he]; simp [strKeys, Maps.size]
        omega
      have lox : wo.heap.size < wc.heap.size := lt_of_block hob
      obtain ⟨x0, x1, x2, x3, x4, x5, xf⟩ := six_of hob
      have HSO := Lib.hid (sort_in (wo.heap.size + 2) v ss wc hown hls (by omega))
      clear hss hown
      go_wp2_with fail
      refine HSO.out.mono ?_
      rintro e w1 ⟨rfl, hown1, hb1⟩
      have hob1 := (hb1.block wo.heap.size (by omega)).trans hob
      obtain ⟨y0, y1, y2, y3, y4, y5, yf⟩ := six_of hob1
      obtain ⟨ks, hks⟩ : ∃ ks, isort ss = ks := ⟨_, rfl⟩
      rw [hks] at hown1
      have hkl : ks.length ≤ 8191 := by rw [← hks, isort_length]; exact hsl
      obtain ⟨nk, hnk⟩ : ∃ nk, ks.length = nk := ⟨_, rfl⟩
      obtain ⟨pk, ck, hvk⟩ := own_slice hown1
      rw [hnk] at hvk hkl
      subst hvk
      have HNK := Lib.hid hnk
      have hmem : ∀ x ∈ ks, ∃ c, (x, c) ∈ vals ∧ valAt vals x = c ∧ Maps.has D (.string x) = true ∧ x.length ≤ maxLen := by
        intro x hx
        have h1 : x ∈ ss := by rw [← hks] at hx; exact (isort_perm ss).mem_iff.1 hx
        rw [← HSS.out] at h1
        obtain ⟨h2, h3⟩ := List.mem_filter.1 h1
        obtain ⟨p, hp, hpx⟩ := List.any_eq_true.1 h3
        simp only [Bool.and_eq_true, beq_iff_eq] at hpx
        have h4 : (x, p.2) ∈ vals := by rw [← hpx.1]; exact hp
        exact ⟨p.2, h4, valAt_mem hE.hmi.nodup h4, by rw [hE.hmi.has]; exact List.any_eq_true.2 ⟨p, hp, by simpa using hpx.1⟩, strKeys_le hE.hown Tryz.underlying9 x (HP.out.mem_iff.1 h2)⟩
      have HMEM := Lib.hid hmem
      have HKS := Lib.hid hks
      have hK0 : KInv wo (w.heap.size + 1) acc.length vals D ks (.slice pk nk ck) w1 0 (.slice none 0 0) := by
        refine ⟨hbm, by omega, ?_, hob1, hown1, ⟨by simp, .inl ⟨rfl, rfl⟩⟩, fun b _ => by simp [Value.ownBlock], hbx.trans (hb1.mono (by omega))⟩
        obtain ⟨es, clock, h1, F, h2, h3⟩ := hE.hown
        exact ⟨es, clock, by rw [hb1.block _ (by omega), hbx.block _ hbm]; exact h1, F, h2, h3⟩
      clear hks x0 x1 x2 x3 x4 x5 xf hmem hnk
      go_upto_block 5 with fail
      clear y0 y1 y2 y3 y4 y5 yf
      go_wp2_with fail
      go_loopw [70] (fun i wr => ∃ (k : Nat) (kv : Value), k ≤ nk ∧ i = .int .i64 k ∧ KInv wo (w.heap.size + 1) acc.length vals D ks (.slice pk nk ck) wr k kv) (fun i _ => nk - (intOf i).toNat)
      case atStart => exact ⟨0, _, Nat.zero_le _, rfl, hK0⟩
      case round =>
        obtain ⟨k, kv, hk, rfl, hI⟩ := hrel
        obtain ⟨y0, y1, y2, y3, y4, y5, yf⟩ := six_of hI.hob
        by_cases hlt2 : k < nk
        · obtain ⟨x, hx⟩ : ∃ x, ks.getD k [] = x := ⟨_, rfl⟩
          have hkk : k < ks.length := by rw [HNK.out]; exact hlt2
          have hxm : x ∈ ks := by rw [← hx]; simp [List.getD, hkk]
          obtain ⟨c, hc1, hc2, hc3, hc4⟩ := HMEM.out x hxm
          obtain ⟨gk, rfl⟩ : ∃ gk, pk = some ⟨gk, 0, none⟩ := by
            rcases hI.hkeys.2 with ⟨h1, h2⟩ | ⟨g, cap, cur, h1, _⟩
            · omega
            · cases h1; exact ⟨_, rfl⟩
          have hcell : wr.cell? ⟨gk, k, none⟩ = some (.string ⟨x.toArray⟩) := by
            have := World.ownsRow.cellAt (g := gk) (cap := ck) (by have h := hI.hkeys; unfold ownS at h; rw [HNK.out] at h; exact h) k (by omega)
            rw [this]; simp [List.getD, hkk] at hx; simp [hkk, hx]
          obtain ⟨vl, pl, hrun, hvl⟩ := hI.hown.lookup Tryz.keyed Tryz.underlying120 (zeroOb wr) (obR_val _) (Go.WideMaps.keyOf_string_mk (s := ⟨x.toArray⟩) Tryz.underlying9 (by show x.length ≤ maxLen; exact hc4))
          have hvc : vl = c.val := by
            obtain ⟨y, hy, hy2⟩ := obR_inv hvl
            have := hE.hmi.at' _ hc1 (.held (Obv.val ⟨0, 0, 0, [], none, 0, 0, none, 0, 0⟩))
            simp at hy2
            rw [hy2.1] at this
            rw [hy]; simpa using this
          subst hvc
          unfold Obv.val at hrun
          have HST := Lib.hid (fun wz g cap o h1 h2 h3 => hI.step (wz := wz) (g := g) (cap := cap) (o := o) (c := c) hkk (by rw [hx]; exact hc2) h1 h2 h3)
          have hrow := hI.hrow
          have hlow : wo.heap.size < wr.heap.size := lt_of_block hI.hob
          have hgk : gk < wr.heap.size := (World.ownsRow.lt hI.hkeys gk rfl).2
          have hls2 : wo.heap.size + 2 ≤ wr.heap.size := by have := (World.ownsRow.lt hI.hkeys gk rfl).1; omega
          have hlok := own_base hI.hrow
          have HOB := Lib.hid hI.hob
          clear hvl hx hxm hc1 hc2 hc3 hc4
          go_wp2_with (at_builtin; go_must (refine appendO rfl _ _ rfl (wo.heap.size + 2) k kv _ c hrow rfl wr.heap.size rfl rfl (by omega) hls2 ?_); intro gz cz wz hownz hgz hatz hltz; have c4z : wz.heap[wo.heap.size]? = some (.cells #[.int .i64 7, .int .i64 0, .int .i64 0, .string ⟨#[]⟩, .slice (some ⟨gk, 0, none⟩) nk ck, kv] 26 (0, 0)) := (hgz.block _ (by simp; omega) (by intro h; have := hlok _ h.symm; omega)).trans ((Below.heap_alloc _ _ _ hlow).trans HOB.out); obtain ⟨z0, z1, z2, z3, z4, z5, zf⟩ := six_of c4z)
          go_roundw
          case rel => exact ⟨k + 1, _, by omega, by go_num, HST.out _ _ _ _ hownz hgz hatz⟩
          case measure => simp [intOf]; omega
        · obtain ⟨pv, cv, hkv⟩ := own_slice hI.hrow
          subst hkv
          have hkn : k = ks.length := by rw [HNK.out]; omega
          have hbw : Below wo.heap.size wo wr := hI.hb
          have HO := Lib.hid (show ObjAt (fun b => w.heap.size + 1 ≤ b) (d + 2) wr (objCells 7 0 0 [] (.slice pk nk ck) (.slice pv k cv)) (mkDict acc) from dict_out hE HP.out (HSS.out.symm ▸ HKS.out) (by rw [← hkn]; exact hI))
          obtain ⟨b0, b1, b2, b3, b4, b5, bf⟩ := six_of ((hbw.block _ (by omega)).trans hE.hB0)
          clear hkn
          go_wp2
          refine bodyPost_ret (v := .agg #[.int .i64 7, .int .i64 0, .int .i64 0, .string ⟨#[]⟩, .slice pk nk ck, .slice pv k cv]) (by simp [results, Tryz.results75, go_sem, b0, b1, b2, b3, b4, b5, bf]) rfl ?_
          rw [HT2.out]
          have hrw : RdAt wr r s a := hE.hr.below hbw
          have hs3 : Bes r w wr := hE.hbes.trans (.of_below hbw)
          refine ⟨_, a, rfl, hE.ha, rfl, objAt_out HO.out (by omega) ?_, hrw.belowB (B := r + 1) (by repeat' (first | (with_reducible exact Below.refl _ _) | (with_reducible refine Below.setCell ?_ ?_ _) | (with_reducible refine Below.alloc ?_ ?_ _) | (show _ ≤ _; simp; done) | (show _ ≤ _; simp; omega) | omega)) (by omega), ?_⟩
          · intro b hb
            rw [Below.heap_setCell _ _ _ _ (by show b ≠ w.heap.size; omega), Below.heap_setCell _ _ _ _ (by show b ≠ w.heap.size; omega), Below.heap_setCell _ _ _ _ (by show b ≠ w.heap.size; omega), Below.heap_setCell _ _ _ _ (by show b ≠ w.heap.size; omega), Below.heap_setCell _ _ _ _ (by show b ≠ w.heap.size; omega), Below.heap_setCell _ _ _ _ (by show b ≠ w.heap.size; omega)]
          · (repeat' (first | (with_reducible exact hs3) | (with_reducible refine Bes.setCell_new ?_ ?_ _) | (show _ ≤ _; simp; done) | (show _ ≤ _; simp; omega) | omega))
end Go.Proofs.YtpadlepdgnlgnaaGreatDoor
