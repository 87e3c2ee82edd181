/- The walks of foliantref05's check of keys, and of whole objects. -/
import Derived.Test.YtpadlepdgnlgnaaGreatDoorCheckA
import Derived.Sort.Walk0
set_option linter.all false
namespace Go.Proofs.YtpadlepdgnlgnaaGreatDoor
open Go.RowKit Fo

theorem key_at {S : Nat → Prop} {w : World} {b off n c : Nat} {ks : List L} (h : KeysAt S w (.slice (some ⟨b, off, none⟩) n c) ks) (hn : ks.length = n) (k : Nat) (hk : k < n) :
    S b ∧ w.cell? ⟨b, off + k, none⟩ = some (.string ⟨(ks.getD k []).toArray⟩) := by
  rcases h with ⟨rfl, p, c', h1⟩ | ⟨b', off', c', h1, h2, h3⟩
  · simp at hn; omega
  · cases h1
    have hk' : k < ks.length := by omega
    exact ⟨h2, by have := h3 k hk'; simpa [List.getD, hk'] using this⟩
theorem rowKinds {S : Nat → Prop} {d : Nat} {w : World} {b off n c : Nat} {os : List Ob} (h : RowAt S d w (.slice (some ⟨b, off, none⟩) n c) os) (hn : os.length = n) (k : Nat) (hk : k < n) :
    S b ∧ w.cell? ⟨b, off + k * 6, none⟩ = some (.int .i64 (os.getD k .zero).kind) := by
  obtain ⟨o, p1, n1, c1, p2, n2, c2, h1, h2, h3, h4, h5, _⟩ := row_kid h hn k hk
  rw [h1]; exact ⟨h3, h5⟩
theorem keysB_false {o : Ob} {k : Nat} (h7 : o.kind = 7 ∨ o.kind = 9) (hk : k < o.keys.length) (h : keyAt o k = false) : keysB o = false := by
  unfold keysB
  rw [if_neg (by omega), if_neg (by omega)]
  rw [Bool.and_eq_false_iff]; right
  rw [List.all_eq_false]
  exact ⟨k, List.mem_range.2 hk, by simp [h]⟩
theorem less_no {x y : L} (h1 : Op.bytesLess x y = false) (h2 : (x == y) = false) : decide (y < x) = true := by
  rw [bytesLess_eq] at h1
  have h1' : ¬ x < y := by simpa using h1
  have h2' : ¬ x = y := by simpa using h2
  rw [decide_eq_true_eq]
  rcases List.le_total x y with h | h
  · exact absurd (Classical.byContradiction fun h3 => h2' (List.le_antisymm h h3)) h1'
  · exact Classical.byContradiction fun h3 => h2' (List.le_antisymm h3 h)
theorem less_yes {x y : L} (h : Op.bytesLess x y = true ∨ x = y) : decide (y < x) = false := by
  rw [decide_eq_false_iff_not]
  rcases h with h | rfl
  · rw [bytesLess_eq, decide_eq_true_eq] at h; exact List.lt_asymm h
  · exact List.lt_irrefl _
set_option maxHeartbeats 1000000 in
theorem keys_dict (S : Nat → Prop) (d : Nat) (o : Ob) (b1 f1 c1 b2 f2 c2 : Nat) (w : World) (hK : KeysAt S w (.slice (some ⟨b1, f1, none⟩) o.keys.length c1) o.keys) (hR : RowAt S d w (.slice (some ⟨b2, f2, none⟩) o.kids.length c2) o.kids) (hS : ∀ b, S b → b < w.heap.size) (hk : o.kind = 7) (hl : o.keys.length = o.kids.length) (hle : o.keys.length ≤ 140737488355328) (hx : ∀ x ∈ o.keys, x.length ≤ 140737488355328) : Calls Tryz.prog 62 #[.agg #[.int .i64 o.kind, .int .i64 o.n, .int .i64 o.g, .string ⟨o.s.toArray⟩, .slice (some ⟨b1, f1, none⟩) o.keys.length c1, .slice (some ⟨b2, f2, none⟩) o.kids.length c2]] w fun e w' => e = .returned (.bool (keysB o)) ∧ Below w.heap.size w w' := by
  obtain ⟨n, hn⟩ : ∃ n, o.keys.length = n := ⟨_, rfl⟩
  have HK := Lib.hid hK
  have HR := Lib.hid hR
  have HS := Lib.hid hS
  have HX := Lib.hid hx
  rw [← hl, hn]
  rw [hn] at hle
  have HN := Lib.hid (And.intro hn (hl.symm.trans hn))
  rw [hk]
  have HK0 := Lib.hid hk
  clear hK hR hS hn hl hx hk
  go_enter Tryz.func62, Tryz.ntmps62
  go_wp2
  go_loopw [29] (fun i wr => ∃ k : Nat, k ≤ n ∧ i = .int .i64 k ∧ Below (w.heap.size + 1) (w.alloc (.cells #[.int .i64 7, .int .i64 o.n, .int .i64 o.g, .string ⟨o.s.toArray⟩, .slice (some ⟨b1, f1, none⟩) n c1, .slice (some ⟨b2, f2, none⟩) n c2] 26)) wr ∧ Hid (∀ j, j < k → keyAt o j = true)) (fun i _ => n - (intOf i).toNat)
  case atStart => exact ⟨0, Nat.zero_le _, rfl, (by repeat' (first | (with_reducible exact Below.refl _ _) | (with_reducible refine Below.drew ?_) | (with_reducible refine belowDrewN ?_ _) | (with_reducible refine belowIter ?_ ?_ _ _) | (with_reducible refine Below.setCell ?_ ?_ _) | (with_reducible refine Below.alloc ?_ ?_ _) | (with_reducible refine Below.trans ?_ (Below.mono hb4 ?_)) | (with_reducible refine Below.trans ?_ (Below.mono hb3 ?_)) | (with_reducible refine Below.trans ?_ (Below.mono hb2 ?_)) | (with_reducible refine Below.trans ?_ (Below.mono hb1 ?_)) | (with_reducible refine Below.trans ?_ (Below.mono hbr ?_)) | (with_reducible refine Below.trans ?_ (Below.mono hb ?_)) | (simp; done) | (simp; omega) | omega)), Lib.hid (by intro j hj; omega)⟩
  case round =>
    obtain ⟨k, hk, rfl, hb, HA⟩ := hrel
    by_cases hlt : k < n
    · have hbw : Below w.heap.size w wr := (show Below w.heap.size w (w.alloc _) from (by repeat' (first | (with_reducible exact Below.refl _ _) | (with_reducible refine Below.drew ?_) | (with_reducible refine belowDrewN ?_ _) | (with_reducible refine belowIter ?_ ?_ _ _) | (with_reducible refine Below.setCell ?_ ?_ _) | (with_reducible refine Below.alloc ?_ ?_ _) | (with_reducible refine Below.trans ?_ (Below.mono hb4 ?_)) | (with_reducible refine Below.trans ?_ (Below.mono hb3 ?_)) | (with_reducible refine Below.trans ?_ (Below.mono hb2 ?_)) | (with_reducible refine Below.trans ?_ (Below.mono hb1 ?_)) | (with_reducible refine Below.trans ?_ (Below.mono hbr ?_)) | (with_reducible refine Below.trans ?_ (Below.mono hb ?_)) | (simp; done) | (simp; omega) | omega))).trans (hb.mono (by omega))
      obtain ⟨s1, g1⟩ := key_at (HK.out.kept (fun b h => hbw.block b (HS.out b h))) rfl k (by rw [HN.out.1]; exact hlt)
      obtain ⟨s2, g2⟩ := rowKinds (HR.out.kept (fun b h => hbw.block b (HS.out b h))) rfl k (by rw [HN.out.2]; exact hlt)
      have hp : 0 < k → wr.cell? ⟨b1, f1 + (k - 1), none⟩ = some (.string ⟨(o.keys.getD (k - 1) []).toArray⟩) := fun h => (key_at (HK.out.kept (fun b h => hbw.block b (HS.out b h))) rfl (k - 1) (by rw [HN.out.1]; omega)).2
      obtain ⟨x, hx⟩ : ∃ x, o.keys.getD k [] = x := ⟨_, rfl⟩
      obtain ⟨y, hy⟩ : ∃ y, o.keys.getD (k - 1) [] = y := ⟨_, rfl⟩
      obtain ⟨kk, hkk⟩ : ∃ kk, (o.kids.getD k .zero).kind = kk := ⟨_, rfl⟩
      rw [hx] at g1
      rw [hy] at hp
      rw [hkk] at g2
      have c0 : wr.cell? ⟨w.heap.size, 0, none⟩ = some (.int .i64 7) := by rw [hb.cell (p := ⟨w.heap.size, 0, none⟩) (by show w.heap.size < _; omega)]; simp [World.cell?_alloc_at]
      have c4 : wr.cell? ⟨w.heap.size, 4, none⟩ = some (.slice (some ⟨b1, f1, none⟩) n c1) := by rw [hb.cell (p := ⟨w.heap.size, 4, none⟩) (by show w.heap.size < _; omega)]; simp [World.cell?_alloc_at]
      have c5 : wr.cell? ⟨w.heap.size, 5, none⟩ = some (.slice (some ⟨b2, f2, none⟩) n c2) := by rw [hb.cell (p := ⟨w.heap.size, 5, none⟩) (by show w.heap.size < _; omega)]; simp [World.cell?_alloc_at]
      have hxm : x.length ≤ 140737488355328 := by
        rw [← hx]; exact HX.out _ (by have : k < o.keys.length := by rw [HN.out.1]; exact hlt
                                      simp [List.getD, this])
      have HNM := Lib.hid (fun W => name_in' x W hxm)
      have HC := Lib.hid (show keyAt o k = (nameB x && (k == 0 || decide (y < x)) && !(x == wLength && o.kind == 9) && kk != 0) by unfold keyAt; rw [hx, hy, hkk])
      have HF := Lib.hid (fun h => keysB_false (o := o) (k := k) (by rw [HK0.out]; decide) (by rw [HN.out.1]; exact hlt) h)
      have hk9 := HK0.out
      rw [hk9] at HC
      clear hx hy hkk hxm hbw hk9
      cases hq : nameB x
      · rw [hq] at HC HNM
        have HF1 := Lib.hid (HF.out (by rw [HC.out]; simp))
        clear hp hq
        go_wp2_with (go_at_call 98; refine (HNM.out _).mono ?_; rintro e w1 ⟨rfl, rfl⟩)
        all_goals go_ret
        all_goals exact ⟨ret_bool HF1.out.symm, (by repeat' (first | (with_reducible exact Below.refl _ _) | (with_reducible refine Below.drew ?_) | (with_reducible refine belowDrewN ?_ _) | (with_reducible refine belowIter ?_ ?_ _ _) | (with_reducible refine Below.setCell ?_ ?_ _) | (with_reducible refine Below.alloc ?_ ?_ _) | (with_reducible refine Below.trans ?_ (Below.mono hb4 ?_)) | (with_reducible refine Below.trans ?_ (Below.mono hb3 ?_)) | (with_reducible refine Below.trans ?_ (Below.mono hb2 ?_)) | (with_reducible refine Below.trans ?_ (Below.mono hb1 ?_)) | (with_reducible refine Below.trans ?_ (Below.mono hbr ?_)) | (with_reducible refine Below.trans ?_ (Below.mono hb ?_)) | (simp; done) | (simp; omega) | omega))⟩
      · rw [hq] at HC HNM
        cases hle : (decide (0 < k) && (Op.bytesLess x y || x == y))
        · have hle2 : 0 < k → Op.bytesLess x y = false ∧ (x == y) = false := fun h => by simpa [h] using hle
          have HC2 := Lib.hid (show keyAt o k = (!(x == wLength && (7 : Int) == 9) && kk != 0) by
            rw [HC.out]
            by_cases h0 : k = 0
            · subst h0; simp
            · have := hle2 (by omega)
              rw [less_no this.1 this.2]; simp)
          clear hle HC
          have HZ0 := Lib.hid (show kk = 0 ∨ ¬ kk = 0 from Classical.em _)
          by_cases hw : x = ([76, 101, 110, 103, 116, 104] : L)
          · subst hw
            cases hz : (kk == 0)
            · have HZ := Lib.hid hz
              by_cases h0 : 0 < k
              · have hp' := hp h0
                obtain ⟨h1, h2⟩ := hle2 h0
                clear hp hle2
                go_wp2_with (go_at_call 98; refine (HNM.out _).mono ?_; rintro e w1 ⟨rfl, rfl⟩)
                go_roundw
                case rel => exact ⟨k + 1, by omega, by go_num, by exact hb, Lib.hid (fun j hj => by
                  by_cases hjk : j < k
                  · exact HA.out j hjk
                  · have : j = k := by omega
                    subst this
                    rw [HC2.out]; have a2 := HZ.out; first | (simp [wLength]; done) | (simp [wLength] at a2 ⊢; exact a2) | (simp [wLength, HW.out] at a2 ⊢; exact a2))⟩
                case measure => simp [intOf]; omega
              · have hk0 : k = 0 := by omega
                subst hk0
                simp only [Nat.add_zero, Nat.zero_mul] at g1 g2
                clear hp hle2
                go_wp2_with (go_at_call 98; refine (HNM.out _).mono ?_; rintro e w1 ⟨rfl, rfl⟩)
                go_roundw
                case rel => exact ⟨1, by omega, by go_num, by exact hb, Lib.hid (fun j hj => by
                  by_cases hjk : j < 0
                  · exact HA.out j hjk
                  · have : j = 0 := by omega
                    subst this
                    rw [HC2.out]; have a2 := HZ.out; first | (simp [wLength]; done) | (simp [wLength] at a2 ⊢; exact a2) | (simp [wLength, HW.out] at a2 ⊢; exact a2))⟩
                case measure => simp [intOf]; omega
            · have HZ := Lib.hid hz
              by_cases h0 : 0 < k
              · have hp' := hp h0
                obtain ⟨h1, h2⟩ := hle2 h0
                clear hp hle2
                go_wp2_with (go_at_call 98; refine (HNM.out _).mono ?_; rintro e w1 ⟨rfl, rfl⟩)
                go_ret
                exact ⟨ret_bool (HF.out (by rw [HC2.out]; have a2 := HZ.out; first | (simp [wLength]; done) | (simp [wLength] at a2 ⊢; exact a2) | (simp [wLength, HW.out] at a2 ⊢; exact a2))).symm, (by repeat' (first | (with_reducible exact Below.refl _ _) | (with_reducible refine Below.drew ?_) | (with_reducible refine belowDrewN ?_ _) | (with_reducible refine belowIter ?_ ?_ _ _) | (with_reducible refine Below.setCell ?_ ?_ _) | (with_reducible refine Below.alloc ?_ ?_ _) | (with_reducible refine Below.trans ?_ (Below.mono hb4 ?_)) | (with_reducible refine Below.trans ?_ (Below.mono hb3 ?_)) | (with_reducible refine Below.trans ?_ (Below.mono hb2 ?_)) | (with_reducible refine Below.trans ?_ (Below.mono hb1 ?_)) | (with_reducible refine Below.trans ?_ (Below.mono hbr ?_)) | (with_reducible refine Below.trans ?_ (Below.mono hb ?_)) | (simp; done) | (simp; omega) | omega))⟩
              · have hk0 : k = 0 := by omega
                subst hk0
                simp only [Nat.add_zero, Nat.zero_mul] at g1 g2
                clear hp hle2
                go_wp2_with (go_at_call 98; refine (HNM.out _).mono ?_; rintro e w1 ⟨rfl, rfl⟩)
                go_ret
                exact ⟨ret_bool (HF.out (by rw [HC2.out]; have a2 := HZ.out; first | (simp [wLength]; done) | (simp [wLength] at a2 ⊢; exact a2) | (simp [wLength, HW.out] at a2 ⊢; exact a2))).symm, (by repeat' (first | (with_reducible exact Below.refl _ _) | (with_reducible refine Below.drew ?_) | (with_reducible refine belowDrewN ?_ _) | (with_reducible refine belowIter ?_ ?_ _ _) | (with_reducible refine Below.setCell ?_ ?_ _) | (with_reducible refine Below.alloc ?_ ?_ _) | (with_reducible refine Below.trans ?_ (Below.mono hb4 ?_)) | (with_reducible refine Below.trans ?_ (Below.mono hb3 ?_)) | (with_reducible refine Below.trans ?_ (Below.mono hb2 ?_)) | (with_reducible refine Below.trans ?_ (Below.mono hb1 ?_)) | (with_reducible refine Below.trans ?_ (Below.mono hbr ?_)) | (with_reducible refine Below.trans ?_ (Below.mono hb ?_)) | (simp; done) | (simp; omega) | omega))⟩
          · have hw' : (x == ([76, 101, 110, 103, 116, 104] : L)) = false := by simpa using hw
            have HW := Lib.hid hw'
            cases hz : (kk == 0)
            · have HZ := Lib.hid hz
              by_cases h0 : 0 < k
              · have hp' := hp h0
                obtain ⟨h1, h2⟩ := hle2 h0
                clear hp hle2
                go_wp2_with (go_at_call 98; refine (HNM.out _).mono ?_; rintro e w1 ⟨rfl, rfl⟩)
                go_roundw
                case rel => exact ⟨k + 1, by omega, by go_num, by exact hb, Lib.hid (fun j hj => by
                  by_cases hjk : j < k
                  · exact HA.out j hjk
                  · have : j = k := by omega
                    subst this
                    rw [HC2.out]; have a2 := HZ.out; first | (simp [wLength]; done) | (simp [wLength] at a2 ⊢; exact a2) | (simp [wLength, HW.out] at a2 ⊢; exact a2))⟩
                case measure => simp [intOf]; omega
              · have hk0 : k = 0 := by omega
                subst hk0
                simp only [Nat.add_zero, Nat.zero_mul] at g1 g2
                clear hp hle2
                go_wp2_with (go_at_call 98; refine (HNM.out _).mono ?_; rintro e w1 ⟨rfl, rfl⟩)
                go_roundw
                case rel => exact ⟨1, by omega, by go_num, by exact hb, Lib.hid (fun j hj => by
                  by_cases hjk : j < 0
                  · exact HA.out j hjk
                  · have : j = 0 := by omega
                    subst this
                    rw [HC2.out]; have a2 := HZ.out; first | (simp [wLength]; done) | (simp [wLength] at a2 ⊢; exact a2) | (simp [wLength, HW.out] at a2 ⊢; exact a2))⟩
                case measure => simp [intOf]; omega
            · have HZ := Lib.hid hz
              by_cases h0 : 0 < k
              · have hp' := hp h0
                obtain ⟨h1, h2⟩ := hle2 h0
                clear hp hle2
                go_wp2_with (go_at_call 98; refine (HNM.out _).mono ?_; rintro e w1 ⟨rfl, rfl⟩)
                go_ret
                exact ⟨ret_bool (HF.out (by rw [HC2.out]; have a2 := HZ.out; first | (simp [wLength]; done) | (simp [wLength] at a2 ⊢; exact a2) | (simp [wLength, HW.out] at a2 ⊢; exact a2))).symm, (by repeat' (first | (with_reducible exact Below.refl _ _) | (with_reducible refine Below.drew ?_) | (with_reducible refine belowDrewN ?_ _) | (with_reducible refine belowIter ?_ ?_ _ _) | (with_reducible refine Below.setCell ?_ ?_ _) | (with_reducible refine Below.alloc ?_ ?_ _) | (with_reducible refine Below.trans ?_ (Below.mono hb4 ?_)) | (with_reducible refine Below.trans ?_ (Below.mono hb3 ?_)) | (with_reducible refine Below.trans ?_ (Below.mono hb2 ?_)) | (with_reducible refine Below.trans ?_ (Below.mono hb1 ?_)) | (with_reducible refine Below.trans ?_ (Below.mono hbr ?_)) | (with_reducible refine Below.trans ?_ (Below.mono hb ?_)) | (simp; done) | (simp; omega) | omega))⟩
              · have hk0 : k = 0 := by omega
                subst hk0
                simp only [Nat.add_zero, Nat.zero_mul] at g1 g2
                clear hp hle2
                go_wp2_with (go_at_call 98; refine (HNM.out _).mono ?_; rintro e w1 ⟨rfl, rfl⟩)
                go_ret
                exact ⟨ret_bool (HF.out (by rw [HC2.out]; have a2 := HZ.out; first | (simp [wLength]; done) | (simp [wLength] at a2 ⊢; exact a2) | (simp [wLength, HW.out] at a2 ⊢; exact a2))).symm, (by repeat' (first | (with_reducible exact Below.refl _ _) | (with_reducible refine Below.drew ?_) | (with_reducible refine belowDrewN ?_ _) | (with_reducible refine belowIter ?_ ?_ _ _) | (with_reducible refine Below.setCell ?_ ?_ _) | (with_reducible refine Below.alloc ?_ ?_ _) | (with_reducible refine Below.trans ?_ (Below.mono hb4 ?_)) | (with_reducible refine Below.trans ?_ (Below.mono hb3 ?_)) | (with_reducible refine Below.trans ?_ (Below.mono hb2 ?_)) | (with_reducible refine Below.trans ?_ (Below.mono hb1 ?_)) | (with_reducible refine Below.trans ?_ (Below.mono hbr ?_)) | (with_reducible refine Below.trans ?_ (Below.mono hb ?_)) | (simp; done) | (simp; omega) | omega))⟩
        · have h0 : 0 < k := by simp at hle; exact hle.1
          have h1 : Op.bytesLess x y = true ∨ x = y := by simp at hle; exact hle.2
          have HF1 := Lib.hid (HF.out (by rw [HC.out, less_yes h1]; have : k ≠ 0 := by omega
                                          simp [this]))
          have hp' := hp h0
          clear hp hle
          cases hb1 : Op.bytesLess x y
          · have hxy : x = y := by rcases h1 with h | h
                                   · rw [hb1] at h; cases h
                                   · exact h
            subst hxy
            clear h1
            go_wp2_with (go_at_call 98; refine (HNM.out _).mono ?_; rintro e w1 ⟨rfl, rfl⟩)
            go_ret
            exact ⟨ret_bool HF1.out.symm, (by repeat' (first | (with_reducible exact Below.refl _ _) | (with_reducible refine Below.drew ?_) | (with_reducible refine belowDrewN ?_ _) | (with_reducible refine belowIter ?_ ?_ _ _) | (with_reducible refine Below.setCell ?_ ?_ _) | (with_reducible refine Below.alloc ?_ ?_ _) | (with_reducible refine Below.trans ?_ (Below.mono hb4 ?_)) | (with_reducible refine Below.trans ?_ (Below.mono hb3 ?_)) | (with_reducible refine Below.trans ?_ (Below.mono hb2 ?_)) | (with_reducible refine Below.trans ?_ (Below.mono hb1 ?_)) | (with_reducible refine Below.trans ?_ (Below.mono hbr ?_)) | (with_reducible refine Below.trans ?_ (Below.mono hb ?_)) | (simp; done) | (simp; omega) | omega))⟩
          · clear h1
            go_wp2_with (go_at_call 98; refine (HNM.out _).mono ?_; rintro e w1 ⟨rfl, rfl⟩)
            go_ret
            exact ⟨ret_bool HF1.out.symm, (by repeat' (first | (with_reducible exact Below.refl _ _) | (with_reducible refine Below.drew ?_) | (with_reducible refine belowDrewN ?_ _) | (with_reducible refine belowIter ?_ ?_ _ _) | (with_reducible refine Below.setCell ?_ ?_ _) | (with_reducible refine Below.alloc ?_ ?_ _) | (with_reducible refine Below.trans ?_ (Below.mono hb4 ?_)) | (with_reducible refine Below.trans ?_ (Below.mono hb3 ?_)) | (with_reducible refine Below.trans ?_ (Below.mono hb2 ?_)) | (with_reducible refine Below.trans ?_ (Below.mono hb1 ?_)) | (with_reducible refine Below.trans ?_ (Below.mono hbr ?_)) | (with_reducible refine Below.trans ?_ (Below.mono hb ?_)) | (simp; done) | (simp; omega) | omega))⟩
    · have HE := Lib.hid (show keysB o = true by
        have hkn : k = n := by omega
        unfold keysB
        rw [if_neg (by rw [HK0.out]; decide), if_neg (by rw [HK0.out]; decide), HN.out.1, HN.out.2]
        simp only [beq_self_eq_true, Bool.true_and, List.all_eq_true, List.mem_range]
        intro j hj; exact HA.out j (by omega))
      go_wp2
      go_ret
      exact ⟨ret_bool HE.out.symm, (by repeat' (first | (with_reducible exact Below.refl _ _) | (with_reducible refine Below.drew ?_) | (with_reducible refine belowDrewN ?_ _) | (with_reducible refine belowIter ?_ ?_ _ _) | (with_reducible refine Below.setCell ?_ ?_ _) | (with_reducible refine Below.alloc ?_ ?_ _) | (with_reducible refine Below.trans ?_ (Below.mono hb4 ?_)) | (with_reducible refine Below.trans ?_ (Below.mono hb3 ?_)) | (with_reducible refine Below.trans ?_ (Below.mono hb2 ?_)) | (with_reducible refine Below.trans ?_ (Below.mono hb1 ?_)) | (with_reducible refine Below.trans ?_ (Below.mono hbr ?_)) | (with_reducible refine Below.trans ?_ (Below.mono hb ?_)) | (simp; done) | (simp; omega) | omega))⟩
set_option maxHeartbeats 1000000 in
theorem keys_stream (S : Nat → Prop) (d : Nat) (o : Ob) (b1 f1 c1 b2 f2 c2 : Nat) (w : World) (hK : KeysAt S w (.slice (some ⟨b1, f1, none⟩) o.keys.length c1) o.keys) (hR : RowAt S d w (.slice (some ⟨b2, f2, none⟩) o.kids.length c2) o.kids) (hS : ∀ b, S b → b < w.heap.size) (hk : o.kind = 9) (hl : o.keys.length = o.kids.length) (hle : o.keys.length ≤ 140737488355328) (hx : ∀ x ∈ o.keys, x.length ≤ 140737488355328) : Calls Tryz.prog 62 #[.agg #[.int .i64 o.kind, .int .i64 o.n, .int .i64 o.g, .string ⟨o.s.toArray⟩, .slice (some ⟨b1, f1, none⟩) o.keys.length c1, .slice (some ⟨b2, f2, none⟩) o.kids.length c2]] w fun e w' => e = .returned (.bool (keysB o)) ∧ Below w.heap.size w w' := by
  obtain ⟨n, hn⟩ : ∃ n, o.keys.length = n := ⟨_, rfl⟩
  have HK := Lib.hid hK
  have HR := Lib.hid hR
  have HS := Lib.hid hS
  have HX := Lib.hid hx
  rw [← hl, hn]
  rw [hn] at hle
  have HN := Lib.hid (And.intro hn (hl.symm.trans hn))
  rw [hk]
  have HK0 := Lib.hid hk
  clear hK hR hS hn hl hx hk
  go_enter Tryz.func62, Tryz.ntmps62
  go_wp2
  go_loopw [29] (fun i wr => ∃ k : Nat, k ≤ n ∧ i = .int .i64 k ∧ Below (w.heap.size + 1) (w.alloc (.cells #[.int .i64 9, .int .i64 o.n, .int .i64 o.g, .string ⟨o.s.toArray⟩, .slice (some ⟨b1, f1, none⟩) n c1, .slice (some ⟨b2, f2, none⟩) n c2] 26)) wr ∧ Hid (∀ j, j < k → keyAt o j = true)) (fun i _ => n - (intOf i).toNat)
  case atStart => exact ⟨0, Nat.zero_le _, rfl, (by repeat' (first | (with_reducible exact Below.refl _ _) | (with_reducible refine Below.drew ?_) | (with_reducible refine belowDrewN ?_ _) | (with_reducible refine belowIter ?_ ?_ _ _) | (with_reducible refine Below.setCell ?_ ?_ _) | (with_reducible refine Below.alloc ?_ ?_ _) | (with_reducible refine Below.trans ?_ (Below.mono hb4 ?_)) | (with_reducible refine Below.trans ?_ (Below.mono hb3 ?_)) | (with_reducible refine Below.trans ?_ (Below.mono hb2 ?_)) | (with_reducible refine Below.trans ?_ (Below.mono hb1 ?_)) | (with_reducible refine Below.trans ?_ (Below.mono hbr ?_)) | (with_reducible refine Below.trans ?_ (Below.mono hb ?_)) | (simp; done) | (simp; omega) | omega)), Lib.hid (by intro j hj; omega)⟩
  case round =>
    obtain ⟨k, hk, rfl, hb, HA⟩ := hrel
    by_cases hlt : k < n
    · have hbw : Below w.heap.size w wr := (show Below w.heap.size w (w.alloc _) from (by repeat' (first | (with_reducible exact Below.refl _ _) | (with_reducible refine Below.drew ?_) | (with_reducible refine belowDrewN ?_ _) | (with_reducible refine belowIter ?_ ?_ _ _) | (with_reducible refine Below.setCell ?_ ?_ _) | (with_reducible refine Below.alloc ?_ ?_ _) | (with_reducible refine Below.trans ?_ (Below.mono hb4 ?_)) | (with_reducible refine Below.trans ?_ (Below.mono hb3 ?_)) | (with_reducible refine Below.trans ?_ (Below.mono hb2 ?_)) | (with_reducible refine Below.trans ?_ (Below.mono hb1 ?_)) | (with_reducible refine Below.trans ?_ (Below.mono hbr ?_)) | (with_reducible refine Below.trans ?_ (Below.mono hb ?_)) | (simp; done) | (simp; omega) | omega))).trans (hb.mono (by omega))
      obtain ⟨s1, g1⟩ := key_at (HK.out.kept (fun b h => hbw.block b (HS.out b h))) rfl k (by rw [HN.out.1]; exact hlt)
      obtain ⟨s2, g2⟩ := rowKinds (HR.out.kept (fun b h => hbw.block b (HS.out b h))) rfl k (by rw [HN.out.2]; exact hlt)
      have hp : 0 < k → wr.cell? ⟨b1, f1 + (k - 1), none⟩ = some (.string ⟨(o.keys.getD (k - 1) []).toArray⟩) := fun h => (key_at (HK.out.kept (fun b h => hbw.block b (HS.out b h))) rfl (k - 1) (by rw [HN.out.1]; omega)).2
      obtain ⟨x, hx⟩ : ∃ x, o.keys.getD k [] = x := ⟨_, rfl⟩
      obtain ⟨y, hy⟩ : ∃ y, o.keys.getD (k - 1) [] = y := ⟨_, rfl⟩
      obtain ⟨kk, hkk⟩ : ∃ kk, (o.kids.getD k .zero).kind = kk := ⟨_, rfl⟩
      rw [hx] at g1
      rw [hy] at hp
      rw [hkk] at g2
      have c0 : wr.cell? ⟨w.heap.size, 0, none⟩ = some (.int .i64 9) := by rw [hb.cell (p := ⟨w.heap.size, 0, none⟩) (by show w.heap.size < _; omega)]; simp [World.cell?_alloc_at]
      have c4 : wr.cell? ⟨w.heap.size, 4, none⟩ = some (.slice (some ⟨b1, f1, none⟩) n c1) := by rw [hb.cell (p := ⟨w.heap.size, 4, none⟩) (by show w.heap.size < _; omega)]; simp [World.cell?_alloc_at]
      have c5 : wr.cell? ⟨w.heap.size, 5, none⟩ = some (.slice (some ⟨b2, f2, none⟩) n c2) := by rw [hb.cell (p := ⟨w.heap.size, 5, none⟩) (by show w.heap.size < _; omega)]; simp [World.cell?_alloc_at]
      have hxm : x.length ≤ 140737488355328 := by
        rw [← hx]; exact HX.out _ (by have : k < o.keys.length := by rw [HN.out.1]; exact hlt
                                      simp [List.getD, this])
      have HNM := Lib.hid (fun W => name_in' x W hxm)
      have HC := Lib.hid (show keyAt o k = (nameB x && (k == 0 || decide (y < x)) && !(x == wLength && o.kind == 9) && kk != 0) by unfold keyAt; rw [hx, hy, hkk])
      have HF := Lib.hid (fun h => keysB_false (o := o) (k := k) (by rw [HK0.out]; decide) (by rw [HN.out.1]; exact hlt) h)
      have hk9 := HK0.out
      rw [hk9] at HC
      clear hx hy hkk hxm hbw hk9
      cases hq : nameB x
      · rw [hq] at HC HNM
        have HF1 := Lib.hid (HF.out (by rw [HC.out]; simp))
        clear hp hq
        go_wp2_with (go_at_call 98; refine (HNM.out _).mono ?_; rintro e w1 ⟨rfl, rfl⟩)
        all_goals go_ret
        all_goals exact ⟨ret_bool HF1.out.symm, (by repeat' (first | (with_reducible exact Below.refl _ _) | (with_reducible refine Below.drew ?_) | (with_reducible refine belowDrewN ?_ _) | (with_reducible refine belowIter ?_ ?_ _ _) | (with_reducible refine Below.setCell ?_ ?_ _) | (with_reducible refine Below.alloc ?_ ?_ _) | (with_reducible refine Below.trans ?_ (Below.mono hb4 ?_)) | (with_reducible refine Below.trans ?_ (Below.mono hb3 ?_)) | (with_reducible refine Below.trans ?_ (Below.mono hb2 ?_)) | (with_reducible refine Below.trans ?_ (Below.mono hb1 ?_)) | (with_reducible refine Below.trans ?_ (Below.mono hbr ?_)) | (with_reducible refine Below.trans ?_ (Below.mono hb ?_)) | (simp; done) | (simp; omega) | omega))⟩
      · rw [hq] at HC HNM
        cases hle : (decide (0 < k) && (Op.bytesLess x y || x == y))
        · have hle2 : 0 < k → Op.bytesLess x y = false ∧ (x == y) = false := fun h => by simpa [h] using hle
          have HC2 := Lib.hid (show keyAt o k = (!(x == wLength && (9 : Int) == 9) && kk != 0) by
            rw [HC.out]
            by_cases h0 : k = 0
            · subst h0; simp
            · have := hle2 (by omega)
              rw [less_no this.1 this.2]; simp)
          clear hle HC
          have HZ0 := Lib.hid (show kk = 0 ∨ ¬ kk = 0 from Classical.em _)
          by_cases hw : x = ([76, 101, 110, 103, 116, 104] : L)
          · subst hw
            have HZ := HZ0
            by_cases h0 : 0 < k
            · have hp' := hp h0
              obtain ⟨h1, h2⟩ := hle2 h0
              clear hp hle2
              go_wp2_with (go_at_call 98; refine (HNM.out _).mono ?_; rintro e w1 ⟨rfl, rfl⟩)
              go_ret
              exact ⟨ret_bool (HF.out (by rw [HC2.out]; have a2 := HZ.out; first | (simp [wLength]; done) | (simp [wLength] at a2 ⊢; exact a2) | (simp [wLength, HW.out] at a2 ⊢; exact a2))).symm, (by repeat' (first | (with_reducible exact Below.refl _ _) | (with_reducible refine Below.drew ?_) | (with_reducible refine belowDrewN ?_ _) | (with_reducible refine belowIter ?_ ?_ _ _) | (with_reducible refine Below.setCell ?_ ?_ _) | (with_reducible refine Below.alloc ?_ ?_ _) | (with_reducible refine Below.trans ?_ (Below.mono hb4 ?_)) | (with_reducible refine Below.trans ?_ (Below.mono hb3 ?_)) | (with_reducible refine Below.trans ?_ (Below.mono hb2 ?_)) | (with_reducible refine Below.trans ?_ (Below.mono hb1 ?_)) | (with_reducible refine Below.trans ?_ (Below.mono hbr ?_)) | (with_reducible refine Below.trans ?_ (Below.mono hb ?_)) | (simp; done) | (simp; omega) | omega))⟩
            · have hk0 : k = 0 := by omega
              subst hk0
              simp only [Nat.add_zero, Nat.zero_mul] at g1 g2
              clear hp hle2
              go_wp2_with (go_at_call 98; refine (HNM.out _).mono ?_; rintro e w1 ⟨rfl, rfl⟩)
              go_ret
              exact ⟨ret_bool (HF.out (by rw [HC2.out]; have a2 := HZ.out; first | (simp [wLength]; done) | (simp [wLength] at a2 ⊢; exact a2) | (simp [wLength, HW.out] at a2 ⊢; exact a2))).symm, (by repeat' (first | (with_reducible exact Below.refl _ _) | (with_reducible refine Below.drew ?_) | (with_reducible refine belowDrewN ?_ _) | (with_reducible refine belowIter ?_ ?_ _ _) | (with_reducible refine Below.setCell ?_ ?_ _) | (with_reducible refine Below.alloc ?_ ?_ _) | (with_reducible refine Below.trans ?_ (Below.mono hb4 ?_)) | (with_reducible refine Below.trans ?_ (Below.mono hb3 ?_)) | (with_reducible refine Below.trans ?_ (Below.mono hb2 ?_)) | (with_reducible refine Below.trans ?_ (Below.mono hb1 ?_)) | (with_reducible refine Below.trans ?_ (Below.mono hbr ?_)) | (with_reducible refine Below.trans ?_ (Below.mono hb ?_)) | (simp; done) | (simp; omega) | omega))⟩
          · have hw' : (x == ([76, 101, 110, 103, 116, 104] : L)) = false := by simpa using hw
            have HW := Lib.hid hw'
            cases hz : (kk == 0)
            · have HZ := Lib.hid hz
              by_cases h0 : 0 < k
              · have hp' := hp h0
                obtain ⟨h1, h2⟩ := hle2 h0
                clear hp hle2
                go_wp2_with (go_at_call 98; refine (HNM.out _).mono ?_; rintro e w1 ⟨rfl, rfl⟩)
                go_roundw
                case rel => exact ⟨k + 1, by omega, by go_num, by exact hb, Lib.hid (fun j hj => by
                  by_cases hjk : j < k
                  · exact HA.out j hjk
                  · have : j = k := by omega
                    subst this
                    rw [HC2.out]; have a2 := HZ.out; first | (simp [wLength]; done) | (simp [wLength] at a2 ⊢; exact a2) | (simp [wLength, HW.out] at a2 ⊢; exact a2))⟩
                case measure => simp [intOf]; omega
              · have hk0 : k = 0 := by omega
                subst hk0
                simp only [Nat.add_zero, Nat.zero_mul] at g1 g2
                clear hp hle2
                go_wp2_with (go_at_call 98; refine (HNM.out _).mono ?_; rintro e w1 ⟨rfl, rfl⟩)
                go_roundw
                case rel => exact ⟨1, by omega, by go_num, by exact hb, Lib.hid (fun j hj => by
                  by_cases hjk : j < 0
                  · exact HA.out j hjk
                  · have : j = 0 := by omega
                    subst this
                    rw [HC2.out]; have a2 := HZ.out; first | (simp [wLength]; done) | (simp [wLength] at a2 ⊢; exact a2) | (simp [wLength, HW.out] at a2 ⊢; exact a2))⟩
                case measure => simp [intOf]; omega
            · have HZ := Lib.hid hz
              by_cases h0 : 0 < k
              · have hp' := hp h0
                obtain ⟨h1, h2⟩ := hle2 h0
                clear hp hle2
                go_wp2_with (go_at_call 98; refine (HNM.out _).mono ?_; rintro e w1 ⟨rfl, rfl⟩)
                go_ret
                exact ⟨ret_bool (HF.out (by rw [HC2.out]; have a2 := HZ.out; first | (simp [wLength]; done) | (simp [wLength] at a2 ⊢; exact a2) | (simp [wLength, HW.out] at a2 ⊢; exact a2))).symm, (by repeat' (first | (with_reducible exact Below.refl _ _) | (with_reducible refine Below.drew ?_) | (with_reducible refine belowDrewN ?_ _) | (with_reducible refine belowIter ?_ ?_ _ _) | (with_reducible refine Below.setCell ?_ ?_ _) | (with_reducible refine Below.alloc ?_ ?_ _) | (with_reducible refine Below.trans ?_ (Below.mono hb4 ?_)) | (with_reducible refine Below.trans ?_ (Below.mono hb3 ?_)) | (with_reducible refine Below.trans ?_ (Below.mono hb2 ?_)) | (with_reducible refine Below.trans ?_ (Below.mono hb1 ?_)) | (with_reducible refine Below.trans ?_ (Below.mono hbr ?_)) | (with_reducible refine Below.trans ?_ (Below.mono hb ?_)) | (simp; done) | (simp; omega) | omega))⟩
              · have hk0 : k = 0 := by omega
                subst hk0
                simp only [Nat.add_zero, Nat.zero_mul] at g1 g2
                clear hp hle2
                go_wp2_with (go_at_call 98; refine (HNM.out _).mono ?_; rintro e w1 ⟨rfl, rfl⟩)
                go_ret
                exact ⟨ret_bool (HF.out (by rw [HC2.out]; have a2 := HZ.out; first | (simp [wLength]; done) | (simp [wLength] at a2 ⊢; exact a2) | (simp [wLength, HW.out] at a2 ⊢; exact a2))).symm, (by repeat' (first | (with_reducible exact Below.refl _ _) | (with_reducible refine Below.drew ?_) | (with_reducible refine belowDrewN ?_ _) | (with_reducible refine belowIter ?_ ?_ _ _) | (with_reducible refine Below.setCell ?_ ?_ _) | (with_reducible refine Below.alloc ?_ ?_ _) | (with_reducible refine Below.trans ?_ (Below.mono hb4 ?_)) | (with_reducible refine Below.trans ?_ (Below.mono hb3 ?_)) | (with_reducible refine Below.trans ?_ (Below.mono hb2 ?_)) | (with_reducible refine Below.trans ?_ (Below.mono hb1 ?_)) | (with_reducible refine Below.trans ?_ (Below.mono hbr ?_)) | (with_reducible refine Below.trans ?_ (Below.mono hb ?_)) | (simp; done) | (simp; omega) | omega))⟩
        · have h0 : 0 < k := by simp at hle; exact hle.1
          have h1 : Op.bytesLess x y = true ∨ x = y := by simp at hle; exact hle.2
          have HF1 := Lib.hid (HF.out (by rw [HC.out, less_yes h1]; have : k ≠ 0 := by omega
                                          simp [this]))
          have hp' := hp h0
          clear hp hle
          cases hb1 : Op.bytesLess x y
          · have hxy : x = y := by rcases h1 with h | h
                                   · rw [hb1] at h; cases h
                                   · exact h
            subst hxy
            clear h1
            go_wp2_with (go_at_call 98; refine (HNM.out _).mono ?_; rintro e w1 ⟨rfl, rfl⟩)
            go_ret
            exact ⟨ret_bool HF1.out.symm, (by repeat' (first | (with_reducible exact Below.refl _ _) | (with_reducible refine Below.drew ?_) | (with_reducible refine belowDrewN ?_ _) | (with_reducible refine belowIter ?_ ?_ _ _) | (with_reducible refine Below.setCell ?_ ?_ _) | (with_reducible refine Below.alloc ?_ ?_ _) | (with_reducible refine Below.trans ?_ (Below.mono hb4 ?_)) | (with_reducible refine Below.trans ?_ (Below.mono hb3 ?_)) | (with_reducible refine Below.trans ?_ (Below.mono hb2 ?_)) | (with_reducible refine Below.trans ?_ (Below.mono hb1 ?_)) | (with_reducible refine Below.trans ?_ (Below.mono hbr ?_)) | (with_reducible refine Below.trans ?_ (Below.mono hb ?_)) | (simp; done) | (simp; omega) | omega))⟩
          · clear h1
            go_wp2_with (go_at_call 98; refine (HNM.out _).mono ?_; rintro e w1 ⟨rfl, rfl⟩)
            go_ret
            exact ⟨ret_bool HF1.out.symm, (by repeat' (first | (with_reducible exact Below.refl _ _) | (with_reducible refine Below.drew ?_) | (with_reducible refine belowDrewN ?_ _) | (with_reducible refine belowIter ?_ ?_ _ _) | (with_reducible refine Below.setCell ?_ ?_ _) | (with_reducible refine Below.alloc ?_ ?_ _) | (with_reducible refine Below.trans ?_ (Below.mono hb4 ?_)) | (with_reducible refine Below.trans ?_ (Below.mono hb3 ?_)) | (with_reducible refine Below.trans ?_ (Below.mono hb2 ?_)) | (with_reducible refine Below.trans ?_ (Below.mono hb1 ?_)) | (with_reducible refine Below.trans ?_ (Below.mono hbr ?_)) | (with_reducible refine Below.trans ?_ (Below.mono hb ?_)) | (simp; done) | (simp; omega) | omega))⟩
    · have HE := Lib.hid (show keysB o = true by
        have hkn : k = n := by omega
        unfold keysB
        rw [if_neg (by rw [HK0.out]; decide), if_neg (by rw [HK0.out]; decide), HN.out.1, HN.out.2]
        simp only [beq_self_eq_true, Bool.true_and, List.all_eq_true, List.mem_range]
        intro j hj; exact HA.out j (by omega))
      go_wp2
      go_ret
      exact ⟨ret_bool HE.out.symm, (by repeat' (first | (with_reducible exact Below.refl _ _) | (with_reducible refine Below.drew ?_) | (with_reducible refine belowDrewN ?_ _) | (with_reducible refine belowIter ?_ ?_ _ _) | (with_reducible refine Below.setCell ?_ ?_ _) | (with_reducible refine Below.alloc ?_ ?_ _) | (with_reducible refine Below.trans ?_ (Below.mono hb4 ?_)) | (with_reducible refine Below.trans ?_ (Below.mono hb3 ?_)) | (with_reducible refine Below.trans ?_ (Below.mono hb2 ?_)) | (with_reducible refine Below.trans ?_ (Below.mono hb1 ?_)) | (with_reducible refine Below.trans ?_ (Below.mono hbr ?_)) | (with_reducible refine Below.trans ?_ (Below.mono hb ?_)) | (simp; done) | (simp; omega) | omega))⟩
theorem smallO_keys {d : Nat} {o : Ob} (h : smallO d o) : o.keys.length ≤ 140737488355328 ∧ o.kids.length ≤ 140737488355328 := by
  cases d with
  | zero => exact h.elim
  | succ d => exact ⟨h.1, h.2.1⟩
set_option maxHeartbeats 1000000 in
theorem keys_name (o : Ob) (p1 p2 : Option Addr) (c1 c2 : Nat) (w : World) (hk : o.kind = 5) (hx : o.s.length ≤ 140737488355328) :
    Calls Tryz.prog 62 #[.agg #[.int .i64 o.kind, .int .i64 o.n, .int .i64 o.g, .string ⟨o.s.toArray⟩, .slice p1 o.keys.length c1, .slice p2 o.kids.length c2]] w fun e w' => e = .returned (.bool (keysB o)) ∧ Below w.heap.size w w' := by
  have HC := Lib.hid (show keysB o = nameB o.s by unfold keysB; rw [if_pos hk])
  rw [hk]
  clear hk
  have HNM := Lib.hid (fun W => name_in' o.s W hx)
  go_enter Tryz.func62, Tryz.ntmps62
  go_wp2_with (go_at_call 98; refine (HNM.out _).mono ?_; rintro e w1 ⟨rfl, rfl⟩)
  go_ret
  exact ⟨ret_bool HC.out.symm, (by repeat' (first | (with_reducible exact Below.refl _ _) | (with_reducible refine Below.drew ?_) | (with_reducible refine belowDrewN ?_ _) | (with_reducible refine belowIter ?_ ?_ _ _) | (with_reducible refine Below.setCell ?_ ?_ _) | (with_reducible refine Below.alloc ?_ ?_ _) | (with_reducible refine Below.trans ?_ (Below.mono hb4 ?_)) | (with_reducible refine Below.trans ?_ (Below.mono hb3 ?_)) | (with_reducible refine Below.trans ?_ (Below.mono hb2 ?_)) | (with_reducible refine Below.trans ?_ (Below.mono hb1 ?_)) | (with_reducible refine Below.trans ?_ (Below.mono hbr ?_)) | (with_reducible refine Below.trans ?_ (Below.mono hb ?_)) | (simp; done) | (simp; omega) | omega))⟩
set_option maxHeartbeats 1000000 in
theorem keys_other (o : Ob) (p1 p2 : Option Addr) (c1 c2 : Nat) (w : World) (h5 : o.kind ≠ 5) (h7 : o.kind ≠ 7) (h9 : o.kind ≠ 9) :
    Calls Tryz.prog 62 #[.agg #[.int .i64 o.kind, .int .i64 o.n, .int .i64 o.g, .string ⟨o.s.toArray⟩, .slice p1 o.keys.length c1, .slice p2 o.kids.length c2]] w fun e w' => e = .returned (.bool (keysB o)) ∧ Below w.heap.size w w' := by
  have HC := Lib.hid (show keysB o = true by unfold keysB; rw [if_neg h5, if_pos ⟨h7, h9⟩])
  have e5 : (o.kind == 5) = false := by simpa using h5
  have e7 : (o.kind != 7) = true := by simpa using h7
  have e9 : (o.kind != 9) = true := by simpa using h9
  clear h5 h7 h9
  go_enter Tryz.func62, Tryz.ntmps62
  go_wp2
  go_ret
  exact ⟨ret_bool HC.out.symm, (by repeat' (first | (with_reducible exact Below.refl _ _) | (with_reducible refine Below.drew ?_) | (with_reducible refine belowDrewN ?_ _) | (with_reducible refine belowIter ?_ ?_ _ _) | (with_reducible refine Below.setCell ?_ ?_ _) | (with_reducible refine Below.alloc ?_ ?_ _) | (with_reducible refine Below.trans ?_ (Below.mono hb4 ?_)) | (with_reducible refine Below.trans ?_ (Below.mono hb3 ?_)) | (with_reducible refine Below.trans ?_ (Below.mono hb2 ?_)) | (with_reducible refine Below.trans ?_ (Below.mono hb1 ?_)) | (with_reducible refine Below.trans ?_ (Below.mono hbr ?_)) | (with_reducible refine Below.trans ?_ (Below.mono hb ?_)) | (simp; done) | (simp; omega) | omega))⟩
set_option maxHeartbeats 1000000 in
theorem keys_dif (o : Ob) (p1 p2 : Option Addr) (c1 c2 : Nat) (w : World) (h : o.kind = 7 ∨ o.kind = 9) (hl : o.keys.length ≠ o.kids.length) :
    Calls Tryz.prog 62 #[.agg #[.int .i64 o.kind, .int .i64 o.n, .int .i64 o.g, .string ⟨o.s.toArray⟩, .slice p1 o.keys.length c1, .slice p2 o.kids.length c2]] w fun e w' => e = .returned (.bool (keysB o)) ∧ Below w.heap.size w w' := by
  rcases h with hk | hk
  ·
    have HC := Lib.hid (show keysB o = false by unfold keysB; rw [if_neg (by omega), if_neg (by omega)]; simp [hl])
    rw [hk]
    clear hk
    have hl' : ((o.keys.length : Int) != (o.kids.length : Int)) = true := by simp; omega
    have hl2 : ¬ o.keys.length = o.kids.length := hl
    obtain ⟨n1, hn1⟩ : ∃ n, o.keys.length = n := ⟨_, rfl⟩
    obtain ⟨n2, hn2⟩ : ∃ n, o.kids.length = n := ⟨_, rfl⟩
    rw [hn1, hn2] at hl' hl2
    rw [hn1, hn2]
    clear hn1 hn2 hl
    go_enter Tryz.func62, Tryz.ntmps62
    go_wp2
    go_ret
    exact ⟨ret_bool HC.out.symm, (by repeat' (first | (with_reducible exact Below.refl _ _) | (with_reducible refine Below.drew ?_) | (with_reducible refine belowDrewN ?_ _) | (with_reducible refine belowIter ?_ ?_ _ _) | (with_reducible refine Below.setCell ?_ ?_ _) | (with_reducible refine Below.alloc ?_ ?_ _) | (with_reducible refine Below.trans ?_ (Below.mono hb4 ?_)) | (with_reducible refine Below.trans ?_ (Below.mono hb3 ?_)) | (with_reducible refine Below.trans ?_ (Below.mono hb2 ?_)) | (with_reducible refine Below.trans ?_ (Below.mono hb1 ?_)) | (with_reducible refine Below.trans ?_ (Below.mono hbr ?_)) | (with_reducible refine Below.trans ?_ (Below.mono hb ?_)) | (simp; done) | (simp; omega) | omega))⟩
  ·
    have HC := Lib.hid (show keysB o = false by unfold keysB; rw [if_neg (by omega), if_neg (by omega)]; simp [hl])
    rw [hk]
    clear hk
    have hl' : ((o.keys.length : Int) != (o.kids.length : Int)) = true := by simp; omega
    have hl2 : ¬ o.keys.length = o.kids.length := hl
    obtain ⟨n1, hn1⟩ : ∃ n, o.keys.length = n := ⟨_, rfl⟩
    obtain ⟨n2, hn2⟩ : ∃ n, o.kids.length = n := ⟨_, rfl⟩
    rw [hn1, hn2] at hl' hl2
    rw [hn1, hn2]
    clear hn1 hn2 hl
    go_enter Tryz.func62, Tryz.ntmps62
    go_wp2
    go_ret
    exact ⟨ret_bool HC.out.symm, (by repeat' (first | (with_reducible exact Below.refl _ _) | (with_reducible refine Below.drew ?_) | (with_reducible refine belowDrewN ?_ _) | (with_reducible refine belowIter ?_ ?_ _ _) | (with_reducible refine Below.setCell ?_ ?_ _) | (with_reducible refine Below.alloc ?_ ?_ _) | (with_reducible refine Below.trans ?_ (Below.mono hb4 ?_)) | (with_reducible refine Below.trans ?_ (Below.mono hb3 ?_)) | (with_reducible refine Below.trans ?_ (Below.mono hb2 ?_)) | (with_reducible refine Below.trans ?_ (Below.mono hb1 ?_)) | (with_reducible refine Below.trans ?_ (Below.mono hbr ?_)) | (with_reducible refine Below.trans ?_ (Below.mono hb ?_)) | (simp; done) | (simp; omega) | omega))⟩
set_option maxHeartbeats 1000000 in
theorem keys_nil (o : Ob) (p1 p2 : Option Addr) (c1 c2 : Nat) (w : World) (h : o.kind = 7 ∨ o.kind = 9) (h1 : o.keys.length = 0) (h2 : o.kids.length = 0) :
    Calls Tryz.prog 62 #[.agg #[.int .i64 o.kind, .int .i64 o.n, .int .i64 o.g, .string ⟨o.s.toArray⟩, .slice p1 o.keys.length c1, .slice p2 o.kids.length c2]] w fun e w' => e = .returned (.bool (keysB o)) ∧ Below w.heap.size w w' := by
  rcases h with hk | hk
  ·
    have HC := Lib.hid (show keysB o = true by unfold keysB; rw [if_neg (by omega), if_neg (by omega), h1, h2]; simp)
    rw [hk]
    clear hk
    rw [h1, h2]
    clear h1 h2
    go_enter Tryz.func62, Tryz.ntmps62
    go_wp2
    refine wp_loop_rounds 1 ?_
    rw [rounds_succ]
    go_wp2
    go_ret
    exact ⟨ret_bool HC.out.symm, (by repeat' (first | (with_reducible exact Below.refl _ _) | (with_reducible refine Below.drew ?_) | (with_reducible refine belowDrewN ?_ _) | (with_reducible refine belowIter ?_ ?_ _ _) | (with_reducible refine Below.setCell ?_ ?_ _) | (with_reducible refine Below.alloc ?_ ?_ _) | (with_reducible refine Below.trans ?_ (Below.mono hb4 ?_)) | (with_reducible refine Below.trans ?_ (Below.mono hb3 ?_)) | (with_reducible refine Below.trans ?_ (Below.mono hb2 ?_)) | (with_reducible refine Below.trans ?_ (Below.mono hb1 ?_)) | (with_reducible refine Below.trans ?_ (Below.mono hbr ?_)) | (with_reducible refine Below.trans ?_ (Below.mono hb ?_)) | (simp; done) | (simp; omega) | omega))⟩
  ·
    have HC := Lib.hid (show keysB o = true by unfold keysB; rw [if_neg (by omega), if_neg (by omega), h1, h2]; simp)
    rw [hk]
    clear hk
    rw [h1, h2]
    clear h1 h2
    go_enter Tryz.func62, Tryz.ntmps62
    go_wp2
    refine wp_loop_rounds 1 ?_
    rw [rounds_succ]
    go_wp2
    go_ret
    exact ⟨ret_bool HC.out.symm, (by repeat' (first | (with_reducible exact Below.refl _ _) | (with_reducible refine Below.drew ?_) | (with_reducible refine belowDrewN ?_ _) | (with_reducible refine belowIter ?_ ?_ _ _) | (with_reducible refine Below.setCell ?_ ?_ _) | (with_reducible refine Below.alloc ?_ ?_ _) | (with_reducible refine Below.trans ?_ (Below.mono hb4 ?_)) | (with_reducible refine Below.trans ?_ (Below.mono hb3 ?_)) | (with_reducible refine Below.trans ?_ (Below.mono hb2 ?_)) | (with_reducible refine Below.trans ?_ (Below.mono hb1 ?_)) | (with_reducible refine Below.trans ?_ (Below.mono hbr ?_)) | (with_reducible refine Below.trans ?_ (Below.mono hb ?_)) | (simp; done) | (simp; omega) | omega))⟩
/-- The check of keys, whatever the object. -/
theorem keys_in (S : Nat → Prop) (d : Nat) (o : Ob) (kv dv : Value) (w : World) (hK : KeysAt S w kv o.keys) (hR : RowAt S d w dv o.kids)
    (hS : ∀ b, S b → b < w.heap.size) (hle : o.keys.length ≤ 140737488355328) (hx : ∀ x ∈ o.keys, x.length ≤ 140737488355328) (hs : o.s.length ≤ 140737488355328) :
    Calls Tryz.prog 62 #[.agg #[.int .i64 o.kind, .int .i64 o.n, .int .i64 o.g, .string ⟨o.s.toArray⟩, kv, dv]] w fun e w' => e = .returned (.bool (keysB o)) ∧ Below w.heap.size w w' := by
  have a1 : ∃ p c, kv = .slice p o.keys.length c := by
    rcases hK with ⟨e, p, c, h⟩ | ⟨b, o, c, h, _⟩
    · exact ⟨_, _, by rw [e]; exact h⟩
    · exact ⟨_, _, h⟩
  have a2 : ∃ p c, dv = .slice p o.kids.length c := by
    rcases hR with ⟨e, p, c, h⟩ | ⟨b, o, c, h, _⟩
    · exact ⟨_, _, by rw [e]; exact h⟩
    · exact ⟨_, _, h⟩
  by_cases h5 : o.kind = 5
  · obtain ⟨p1, c1, rfl⟩ := a1
    obtain ⟨p2, c2, rfl⟩ := a2
    exact keys_name o p1 p2 c1 c2 w h5 hs
  by_cases h79 : o.kind = 7 ∨ o.kind = 9
  · by_cases hl : o.keys.length = o.kids.length
    · by_cases h0 : o.keys.length = 0
      · obtain ⟨p1, c1, rfl⟩ := a1
        obtain ⟨p2, c2, rfl⟩ := a2
        exact keys_nil o p1 p2 c1 c2 w h79 h0 (by omega)
      · have hK' := hK
        have hR' := hR
        rcases hK with ⟨e, _⟩ | ⟨b1, f1, c1, rfl, _⟩
        · rw [e] at h0; exact absurd rfl h0
        · rcases hR with ⟨e, _⟩ | ⟨b2, f2, c2, rfl, _⟩
          · rw [e] at hl; simp at hl; simp [hl] at h0
          · rcases h79 with h | h
            · exact keys_dict S d o b1 f1 c1 b2 f2 c2 w hK' hR' hS h hl hle hx
            · exact keys_stream S d o b1 f1 c1 b2 f2 c2 w hK' hR' hS h hl hle hx
    · obtain ⟨p1, c1, rfl⟩ := a1
      obtain ⟨p2, c2, rfl⟩ := a2
      exact keys_dif o p1 p2 c1 c2 w h79 hl
  · obtain ⟨p1, c1, rfl⟩ := a1
    obtain ⟨p2, c2, rfl⟩ := a2
    exact keys_other o p1 p2 c1 c2 w h5 (by omega) (by omega)
end Go.Proofs.YtpadlepdgnlgnaaGreatDoor
