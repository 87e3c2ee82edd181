/- The walks of value's small functions. -/
import Derived.Test.YtfgdhcemidlnfaaGreatDoorGChk
import Derived.Lib.IndexLaws
set_option linter.all false
/- The walks of the value layer: its small tests. -/
namespace Go.Proofs.YtfgdhcemidlnfaaGreatDoor
open Go.RowKit Fo

theorem vmust_yes (k : Int) (w : World) : Calls Tryz.prog 175 #[.bool true, .int .i64 k] w fun e w' => e = .returned (.tuple #[]) ∧ w' = w := by
  go_enter Tryz.func175, Tryz.ntmps175
  go_wp2
  go_end0
  exact ⟨rfl, rfl⟩
theorem vmust_no (k : Int) (w : World) : Calls Tryz.prog 175 #[.bool false, .int .i64 k] w fun e w' => e = (.panicked [{ v := .iface 190 (.agg #[.int .i64 k]), recovered := false }]) ∧ w' = w := by
  go_enter Tryz.func175, Tryz.ntmps175
  go_wp2
  exact ⟨rfl, rfl, rfl⟩
theorem within_in (n a b : Int) (w : World) : Calls Tryz.prog 209 #[.int .i64 n, .int .i64 a, .int .i64 b] w fun e w' => e = .returned (.bool (decide (a ≤ n) && decide (n ≤ b))) ∧ w' = w := by
  go_enter Tryz.func209, Tryz.ntmps209
  go_wp2
  all_goals go_ret
  all_goals exact ⟨ret_bool (by simp_all; try omega), rfl⟩
theorem withinI_in (n a b : Int) (w : World) : Calls Tryz.prog 210 #[.int .i64 n, .int .i64 a, .int .i64 b] w fun e w' => e = .returned (.bool (decide (a ≤ n) && decide (n ≤ b))) ∧ w' = w := by
  go_enter Tryz.func210, Tryz.ntmps210
  go_wp2
  all_goals go_ret
  all_goals exact ⟨ret_bool (by simp_all; try omega), rfl⟩
theorem zero_ix (l : L) : decide (Lib.indexByte l 0 < 0) = l.all (· != 0) := by
  cases h : l.all (· != 0)
  · rw [decide_eq_false_iff_not]
    intro hlt
    have hge := Lib.indexByte_ge l 0
    have hn := Lib.indexByte_none (show Lib.indexByte l 0 = -1 by omega)
    rw [List.all_eq_false] at h
    obtain ⟨x, hx, hx0⟩ := h
    obtain ⟨k, hk, rfl⟩ := List.mem_iff_getElem.1 hx
    refine hn k ?_
    rw [List.getElem?_eq_getElem hk]
    simp at hx0
    rw [hx0]
  · rw [decide_eq_true_eq]
    apply Classical.byContradiction
    intro hnl
    obtain ⟨o, ho⟩ : ∃ o : Nat, Lib.indexByte l 0 = o := ⟨(Lib.indexByte l 0).toNat, by omega⟩
    have := (Lib.indexByte_some ho).1
    obtain ⟨hlt, he⟩ := List.getElem?_eq_some_iff.1 this
    rw [List.all_eq_true] at h
    have := h _ (List.getElem_mem hlt)
    rw [he] at this
    simp at this
set_option maxHeartbeats 400000 in
theorem vkey_in (x : L) (hx : x.length ≤ 140737488355328) (w : World) : Calls Tryz.prog 179 #[.string ⟨x.toArray⟩] w fun e w' => e = .returned (.bool (nameB x)) ∧ w' = w := by
  have H := Lib.hid (show nameB x = (decide (x.length ≤ 127) && decide (Lib.indexByte x 0 < 0)) by rw [zero_ix, Bool.and_comm]; rfl)
  by_cases h : x.length ≤ 127
  · have d1 : decide ((x.length : Int) ≤ 127) = true := by simp; omega
    have HR := Lib.hid (show nameB x = decide (Lib.indexByte x 0 < 0) by rw [H.out, decide_eq_true h, Bool.true_and])
    clear h hx
    go_enter Tryz.func179, Tryz.ntmps179
    go_wp2_with (go_at_call 211; refine (Tryz.strings_IndexByte _ _ _).mono ?_; rintro e w' ⟨rfl, rfl⟩)
    go_ret
    exact ⟨ret_bool (by rw [HR.out]), rfl⟩
  · have d1 : decide ((x.length : Int) ≤ 127) = false := by simp; omega
    have HR := Lib.hid (show nameB x = false by rw [H.out, decide_eq_false h, Bool.false_and])
    clear h hx
    go_enter Tryz.func179, Tryz.ntmps179
    go_wp2
    go_ret
    exact ⟨ret_bool HR.out.symm, rfl⟩
/-- The fields that a kind uses, and whether it is one. -/
def usedV (K : Int) : Bool × Bool × Bool × Bool × Bool × Bool :=
  if K = 0 then (false, false, false, false, false, true)
  else if K = 1 ∨ K = 2 ∨ K = 3 then (true, false, false, false, false, true)
  else if K = 4 ∨ K = 5 then (false, false, true, false, false, true)
  else if K = 6 then (false, false, false, false, true, true)
  else if K = 7 then (false, false, false, true, true, true)
  else if K = 8 then (true, true, false, false, false, true)
  else if K = 9 then (false, false, true, true, true, true)
  else (false, false, false, false, false, false)
/-- What used hands back, a bool each. -/
def usedR (u : Bool × Bool × Bool × Bool × Bool × Bool) : Value := .tuple #[.agg #[.bool u.1, .bool u.2.1, .bool u.2.2.1, .bool u.2.2.2.1, .bool u.2.2.2.2.1], .bool u.2.2.2.2.2]
set_option maxHeartbeats 1000000 in
theorem used_in (K : Int) (w : World) : Calls Tryz.prog 176 #[.int .i64 K] w fun e w' => e = .returned (usedR (usedV K)) ∧ Below w.heap.size w w' := by
  by_cases h0 : K = 0
  · subst h0
    go_enter Tryz.func176, Tryz.ntmps176
    go_wp2
    refine bodyPost_ret (v := usedR (false, false, false, false, false, true)) (by simp [results, Tryz.results176, go_sem, usedR]) rfl ⟨rfl, (by repeat' (first | (with_reducible first | exact Below.refl _ _ | refine Below.drew ?_ | refine belowDrewN ?_ _ | refine belowIter ?_ ?_ _ _ | refine Below.setCell ?_ ?_ _ | refine Below.alloc ?_ ?_ _ | refine bT hb4 ?_ ?_ | refine bT hb3 ?_ ?_ | refine bT hb2 ?_ ?_ | refine bT hb1 ?_ ?_ | refine bT hbr ?_ ?_ | refine bT hb ?_ ?_) | (simp; done) | (simp; omega) | omega))⟩
  by_cases h1 : K = 1
  · subst h1
    go_enter Tryz.func176, Tryz.ntmps176
    go_wp2
    refine bodyPost_ret (v := usedR (true, false, false, false, false, true)) (by simp [results, Tryz.results176, go_sem, usedR]) rfl ⟨rfl, (by repeat' (first | (with_reducible first | exact Below.refl _ _ | refine Below.drew ?_ | refine belowDrewN ?_ _ | refine belowIter ?_ ?_ _ _ | refine Below.setCell ?_ ?_ _ | refine Below.alloc ?_ ?_ _ | refine bT hb4 ?_ ?_ | refine bT hb3 ?_ ?_ | refine bT hb2 ?_ ?_ | refine bT hb1 ?_ ?_ | refine bT hbr ?_ ?_ | refine bT hb ?_ ?_) | (simp; done) | (simp; omega) | omega))⟩
  by_cases h2 : K = 2
  · subst h2
    go_enter Tryz.func176, Tryz.ntmps176
    go_wp2
    refine bodyPost_ret (v := usedR (true, false, false, false, false, true)) (by simp [results, Tryz.results176, go_sem, usedR]) rfl ⟨rfl, (by repeat' (first | (with_reducible first | exact Below.refl _ _ | refine Below.drew ?_ | refine belowDrewN ?_ _ | refine belowIter ?_ ?_ _ _ | refine Below.setCell ?_ ?_ _ | refine Below.alloc ?_ ?_ _ | refine bT hb4 ?_ ?_ | refine bT hb3 ?_ ?_ | refine bT hb2 ?_ ?_ | refine bT hb1 ?_ ?_ | refine bT hbr ?_ ?_ | refine bT hb ?_ ?_) | (simp; done) | (simp; omega) | omega))⟩
  by_cases h3 : K = 3
  · subst h3
    go_enter Tryz.func176, Tryz.ntmps176
    go_wp2
    refine bodyPost_ret (v := usedR (true, false, false, false, false, true)) (by simp [results, Tryz.results176, go_sem, usedR]) rfl ⟨rfl, (by repeat' (first | (with_reducible first | exact Below.refl _ _ | refine Below.drew ?_ | refine belowDrewN ?_ _ | refine belowIter ?_ ?_ _ _ | refine Below.setCell ?_ ?_ _ | refine Below.alloc ?_ ?_ _ | refine bT hb4 ?_ ?_ | refine bT hb3 ?_ ?_ | refine bT hb2 ?_ ?_ | refine bT hb1 ?_ ?_ | refine bT hbr ?_ ?_ | refine bT hb ?_ ?_) | (simp; done) | (simp; omega) | omega))⟩
  by_cases h4 : K = 4
  · subst h4
    go_enter Tryz.func176, Tryz.ntmps176
    go_wp2
    refine bodyPost_ret (v := usedR (false, false, true, false, false, true)) (by simp [results, Tryz.results176, go_sem, usedR]) rfl ⟨rfl, (by repeat' (first | (with_reducible first | exact Below.refl _ _ | refine Below.drew ?_ | refine belowDrewN ?_ _ | refine belowIter ?_ ?_ _ _ | refine Below.setCell ?_ ?_ _ | refine Below.alloc ?_ ?_ _ | refine bT hb4 ?_ ?_ | refine bT hb3 ?_ ?_ | refine bT hb2 ?_ ?_ | refine bT hb1 ?_ ?_ | refine bT hbr ?_ ?_ | refine bT hb ?_ ?_) | (simp; done) | (simp; omega) | omega))⟩
  by_cases h5 : K = 5
  · subst h5
    go_enter Tryz.func176, Tryz.ntmps176
    go_wp2
    refine bodyPost_ret (v := usedR (false, false, true, false, false, true)) (by simp [results, Tryz.results176, go_sem, usedR]) rfl ⟨rfl, (by repeat' (first | (with_reducible first | exact Below.refl _ _ | refine Below.drew ?_ | refine belowDrewN ?_ _ | refine belowIter ?_ ?_ _ _ | refine Below.setCell ?_ ?_ _ | refine Below.alloc ?_ ?_ _ | refine bT hb4 ?_ ?_ | refine bT hb3 ?_ ?_ | refine bT hb2 ?_ ?_ | refine bT hb1 ?_ ?_ | refine bT hbr ?_ ?_ | refine bT hb ?_ ?_) | (simp; done) | (simp; omega) | omega))⟩
  by_cases h6 : K = 6
  · subst h6
    go_enter Tryz.func176, Tryz.ntmps176
    go_wp2
    refine bodyPost_ret (v := usedR (false, false, false, false, true, true)) (by simp [results, Tryz.results176, go_sem, usedR]) rfl ⟨rfl, (by repeat' (first | (with_reducible first | exact Below.refl _ _ | refine Below.drew ?_ | refine belowDrewN ?_ _ | refine belowIter ?_ ?_ _ _ | refine Below.setCell ?_ ?_ _ | refine Below.alloc ?_ ?_ _ | refine bT hb4 ?_ ?_ | refine bT hb3 ?_ ?_ | refine bT hb2 ?_ ?_ | refine bT hb1 ?_ ?_ | refine bT hbr ?_ ?_ | refine bT hb ?_ ?_) | (simp; done) | (simp; omega) | omega))⟩
  by_cases h7 : K = 7
  · subst h7
    go_enter Tryz.func176, Tryz.ntmps176
    go_wp2
    refine bodyPost_ret (v := usedR (false, false, false, true, true, true)) (by simp [results, Tryz.results176, go_sem, usedR]) rfl ⟨rfl, (by repeat' (first | (with_reducible first | exact Below.refl _ _ | refine Below.drew ?_ | refine belowDrewN ?_ _ | refine belowIter ?_ ?_ _ _ | refine Below.setCell ?_ ?_ _ | refine Below.alloc ?_ ?_ _ | refine bT hb4 ?_ ?_ | refine bT hb3 ?_ ?_ | refine bT hb2 ?_ ?_ | refine bT hb1 ?_ ?_ | refine bT hbr ?_ ?_ | refine bT hb ?_ ?_) | (simp; done) | (simp; omega) | omega))⟩
  by_cases h8 : K = 8
  · subst h8
    go_enter Tryz.func176, Tryz.ntmps176
    go_wp2
    refine bodyPost_ret (v := usedR (true, true, false, false, false, true)) (by simp [results, Tryz.results176, go_sem, usedR]) rfl ⟨rfl, (by repeat' (first | (with_reducible first | exact Below.refl _ _ | refine Below.drew ?_ | refine belowDrewN ?_ _ | refine belowIter ?_ ?_ _ _ | refine Below.setCell ?_ ?_ _ | refine Below.alloc ?_ ?_ _ | refine bT hb4 ?_ ?_ | refine bT hb3 ?_ ?_ | refine bT hb2 ?_ ?_ | refine bT hb1 ?_ ?_ | refine bT hbr ?_ ?_ | refine bT hb ?_ ?_) | (simp; done) | (simp; omega) | omega))⟩
  by_cases h9 : K = 9
  · subst h9
    go_enter Tryz.func176, Tryz.ntmps176
    go_wp2
    refine bodyPost_ret (v := usedR (false, false, true, true, true, true)) (by simp [results, Tryz.results176, go_sem, usedR]) rfl ⟨rfl, (by repeat' (first | (with_reducible first | exact Below.refl _ _ | refine Below.drew ?_ | refine belowDrewN ?_ _ | refine belowIter ?_ ?_ _ _ | refine Below.setCell ?_ ?_ _ | refine Below.alloc ?_ ?_ _ | refine bT hb4 ?_ ?_ | refine bT hb3 ?_ ?_ | refine bT hb2 ?_ ?_ | refine bT hb1 ?_ ?_ | refine bT hbr ?_ ?_ | refine bT hb ?_ ?_) | (simp; done) | (simp; omega) | omega))⟩
  rw [show usedV K = (false, false, false, false, false, false) by simp_all [usedV]]
  have e0 : (K == 0) = false := by simpa using h0
  have e1 : (K == 1) = false := by simpa using h1
  have e2 : (K == 2) = false := by simpa using h2
  have e3 : (K == 3) = false := by simpa using h3
  have e4 : (K == 4) = false := by simpa using h4
  have e5 : (K == 5) = false := by simpa using h5
  have e6 : (K == 6) = false := by simpa using h6
  have e7 : (K == 7) = false := by simpa using h7
  have e8 : (K == 8) = false := by simpa using h8
  have e9 : (K == 9) = false := by simpa using h9
  clear h0 h1 h2 h3 h4 h5 h6 h7 h8 h9
  go_enter Tryz.func176, Tryz.ntmps176
  go_wp2
  refine bodyPost_ret (v := usedR (false, false, false, false, false, false)) (by simp [results, Tryz.results176, go_sem, usedR]) rfl ⟨rfl, (by repeat' (first | (with_reducible first | exact Below.refl _ _ | refine Below.drew ?_ | refine belowDrewN ?_ _ | refine belowIter ?_ ?_ _ _ | refine Below.setCell ?_ ?_ _ | refine Below.alloc ?_ ?_ _ | refine bT hb4 ?_ ?_ | refine bT hb3 ?_ ?_ | refine bT hb2 ?_ ?_ | refine bT hb1 ?_ ?_ | refine bT hbr ?_ ?_ | refine bT hb ?_ ?_) | (simp; done) | (simp; omega) | omega))⟩
set_option maxHeartbeats 1000000 in
theorem vfits_in (K N G : Int) (s : L) (p1 p2 : Option Addr) (n1 c1 n2 c2 : Nat) (w : World) :
    Calls Tryz.prog 177 #[.agg #[.int .i64 K, .int .i64 N, .int .i64 G, .string ⟨s.toArray⟩, .slice p1 n1 c1, .slice p2 n2 c2]] w fun e w' => e = .returned (.bool (fitsV K N G)) ∧ Below w.heap.size w w' := by
  have HW := Lib.hid (fun n a b W => within_in n a b W)
  have HI := Lib.hid (fun n a b W => withinI_in n a b W)
  go_enter Tryz.func177, Tryz.ntmps177
  go_wp2_with (first | (go_at_call 209; refine (HW.out _ _ _ _).mono ?_; rintro e w1 ⟨rfl, rfl⟩) | (go_at_call 210; refine (HI.out _ _ _ _).mono ?_; rintro e w1 ⟨rfl, rfl⟩))
  all_goals go_ret
  all_goals exact ⟨ret_bool (by unfold fitsV; simp_all; try (first | omega | (rw [Bool.eq_iff_iff]; simp; omega))), (by repeat' (first | (with_reducible first | exact Below.refl _ _ | refine Below.drew ?_ | refine belowDrewN ?_ _ | refine belowIter ?_ ?_ _ _ | refine Below.setCell ?_ ?_ _ | refine Below.alloc ?_ ?_ _ | refine bT hb4 ?_ ?_ | refine bT hb3 ?_ ?_ | refine bT hb2 ?_ ?_ | refine bT hb1 ?_ ?_ | refine bT hbr ?_ ?_ | refine bT hb ?_ ?_) | (simp; done) | (simp; omega) | omega))⟩
def shortV (K : Int) (n : Nat) : Bool := if K = 4 then decide (n ≤ 32767) else if K = 5 then decide (n ≤ 127) else decide (n ≤ 1048576)
set_option maxHeartbeats 1000000 in
theorem vshort_in (K N G : Int) (s : L) (p1 p2 : Option Addr) (n1 c1 n2 c2 : Nat) (w : World) :
    Calls Tryz.prog 178 #[.agg #[.int .i64 K, .int .i64 N, .int .i64 G, .string ⟨s.toArray⟩, .slice p1 n1 c1, .slice p2 n2 c2]] w fun e w' => e = .returned (.bool (shortV K s.length)) ∧ Below w.heap.size w w' := by
  obtain ⟨ss, hss⟩ : ∃ ss : ByteArray, ss = ⟨s.toArray⟩ := ⟨_, rfl⟩
  have hsz : s.length = ss.size := by rw [hss]; rfl
  rw [← hss, hsz]
  clear hss hsz
  go_enter Tryz.func178, Tryz.ntmps178
  go_wp2
  all_goals go_ret
  all_goals exact ⟨ret_bool (by unfold shortV; simp_all; try omega), (by repeat' (first | (with_reducible first | exact Below.refl _ _ | refine Below.drew ?_ | refine belowDrewN ?_ _ | refine belowIter ?_ ?_ _ _ | refine Below.setCell ?_ ?_ _ | refine Below.alloc ?_ ?_ _ | refine bT hb4 ?_ ?_ | refine bT hb3 ?_ ?_ | refine bT hb2 ?_ ?_ | refine bT hb1 ?_ ?_ | refine bT hbr ?_ ?_ | refine bT hb ?_ ?_) | (simp; done) | (simp; omega) | omega))⟩
end Go.Proofs.YtfgdhcemidlnfaaGreatDoor
/- The walk of the value layer's look at keys. -/
namespace Go.Proofs.YtfgdhcemidlnfaaGreatDoor
open Go.RowKit Fo

set_option maxHeartbeats 1000000 in
theorem vkeys_dict (S : Nat → Prop) (d : Nat) (o : Ob) (b1 f1 c1 b2 f2 c2 : Nat) (w : World) (hK : KeysAt S w (.slice (some ⟨b1, f1, none⟩) o.keys.length c1) o.keys) (hR : RowAt S d w (.slice (some ⟨b2, f2, none⟩) o.kids.length c2) o.kids) (hS : ∀ b, S b → b < w.heap.size) (hk : o.kind = 7) (hl : o.keys.length = o.kids.length) (hle : o.keys.length ≤ 140737488355328) (hx : ∀ x ∈ o.keys, x.length ≤ 140737488355328) : Calls Tryz.prog 180 #[.agg #[.int .i64 o.kind, .int .i64 o.n, .int .i64 o.g, .string ⟨o.s.toArray⟩, .slice (some ⟨b1, f1, none⟩) o.keys.length c1, .slice (some ⟨b2, f2, none⟩) o.kids.length c2]] w fun e w' => e = .returned (.bool (keysB o)) ∧ Below w.heap.size w w' := by
  obtain ⟨n, hn⟩ : ∃ n, o.keys.length = n := ⟨_, rfl⟩
  have HK := Lib.hid hK
  have HR := Lib.hid hR
  have HS := Lib.hid hS
  have HX := Lib.hid hx
  rw [← hl, hn]
  rw [hn] at hle
  have HN := Lib.hid (And.intro hn (hl.symm.trans hn))
  rw [hk]
  have HK0 := Lib.hid hk
  clear hK hR hS hn hl hx hk
  go_enter Tryz.func180, Tryz.ntmps180
  go_wp2
  go_loopw [15] (fun i wr => ∃ k : Nat, k ≤ n ∧ i = .int .i64 k ∧ Below (w.heap.size + 1) (w.alloc (.cells #[.int .i64 7, .int .i64 o.n, .int .i64 o.g, .string ⟨o.s.toArray⟩, .slice (some ⟨b1, f1, none⟩) n c1, .slice (some ⟨b2, f2, none⟩) n c2] 26)) wr ∧ Hid (∀ j, j < k → keyAt o j = true)) (fun i _ => n - (intOf i).toNat)
  case atStart => exact ⟨0, Nat.zero_le _, rfl, (by repeat' (first | (with_reducible first | exact Below.refl _ _ | refine Below.drew ?_ | refine belowDrewN ?_ _ | refine belowIter ?_ ?_ _ _ | refine Below.setCell ?_ ?_ _ | refine Below.alloc ?_ ?_ _ | refine bT hb4 ?_ ?_ | refine bT hb3 ?_ ?_ | refine bT hb2 ?_ ?_ | refine bT hb1 ?_ ?_ | refine bT hbr ?_ ?_ | refine bT hb ?_ ?_) | (simp; done) | (simp; omega) | omega)), Lib.hid (by intro j hj; omega)⟩
  case round =>
    obtain ⟨k, hk, rfl, hb, HA⟩ := hrel
    by_cases hlt : k < n
    · have hbw : Below w.heap.size w wr := (show Below w.heap.size w (w.alloc _) from (by repeat' (first | (with_reducible first | exact Below.refl _ _ | refine Below.drew ?_ | refine belowDrewN ?_ _ | refine belowIter ?_ ?_ _ _ | refine Below.setCell ?_ ?_ _ | refine Below.alloc ?_ ?_ _ | refine bT hb4 ?_ ?_ | refine bT hb3 ?_ ?_ | refine bT hb2 ?_ ?_ | refine bT hb1 ?_ ?_ | refine bT hbr ?_ ?_ | refine bT hb ?_ ?_) | (simp; done) | (simp; omega) | omega))).trans (hb.mono (by omega))
      obtain ⟨s1, g1⟩ := key_at (HK.out.kept (fun b h => hbw.block b (HS.out b h))) rfl k (by rw [HN.out.1]; exact hlt)
      obtain ⟨s2, g2⟩ := rowKinds (HR.out.kept (fun b h => hbw.block b (HS.out b h))) rfl k (by rw [HN.out.2]; exact hlt)
      have hp : 0 < k → wr.cell? ⟨b1, f1 + (k - 1), none⟩ = some (.string ⟨(o.keys.getD (k - 1) []).toArray⟩) := fun h => (key_at (HK.out.kept (fun b h => hbw.block b (HS.out b h))) rfl (k - 1) (by rw [HN.out.1]; omega)).2
      obtain ⟨x, hx⟩ : ∃ x, o.keys.getD k [] = x := ⟨_, rfl⟩
      obtain ⟨y, hy⟩ : ∃ y, o.keys.getD (k - 1) [] = y := ⟨_, rfl⟩
      obtain ⟨kk, hkk⟩ : ∃ kk, (o.kids.getD k .zero).kind = kk := ⟨_, rfl⟩
      rw [hx] at g1
      rw [hy] at hp
      rw [hkk] at g2
      have c0 : wr.cell? ⟨w.heap.size, 0, none⟩ = some (.int .i64 7) := by rw [hb.cell (p := ⟨w.heap.size, 0, none⟩) (by show w.heap.size < _; omega)]; simp [World.cell?_alloc_at]
      have c4 : wr.cell? ⟨w.heap.size, 4, none⟩ = some (.slice (some ⟨b1, f1, none⟩) n c1) := by rw [hb.cell (p := ⟨w.heap.size, 4, none⟩) (by show w.heap.size < _; omega)]; simp [World.cell?_alloc_at]
      have c5 : wr.cell? ⟨w.heap.size, 5, none⟩ = some (.slice (some ⟨b2, f2, none⟩) n c2) := by rw [hb.cell (p := ⟨w.heap.size, 5, none⟩) (by show w.heap.size < _; omega)]; simp [World.cell?_alloc_at]
      have hxm : x.length ≤ 140737488355328 := by
        rw [← hx]; exact HX.out _ (by have : k < o.keys.length := by rw [HN.out.1]; exact hlt
                                      simp [List.getD, this])
      have HNM := Lib.hid (fun W => vkey_in x hxm W)
      have HC := Lib.hid (show keyAt o k = (nameB x && (k == 0 || decide (y < x)) && !(x == wLength && o.kind == 9) && kk != 0) by unfold keyAt; rw [hx, hy, hkk])
      have HF := Lib.hid (fun h => keysB_false (o := o) (k := k) (by rw [HK0.out]; decide) (by rw [HN.out.1]; exact hlt) h)
      have hk9 := HK0.out
      rw [hk9] at HC
      clear hx hy hkk hxm hbw hk9
      cases hq : nameB x
      · rw [hq] at HC HNM
        have HF1 := Lib.hid (HF.out (by rw [HC.out]; simp))
        clear hp hq
        go_wp2_with (go_at_call 179; refine (HNM.out _).mono ?_; rintro e w1 ⟨rfl, rfl⟩)
        all_goals go_ret
        all_goals exact ⟨ret_bool HF1.out.symm, (by repeat' (first | (with_reducible first | exact Below.refl _ _ | refine Below.drew ?_ | refine belowDrewN ?_ _ | refine belowIter ?_ ?_ _ _ | refine Below.setCell ?_ ?_ _ | refine Below.alloc ?_ ?_ _ | refine bT hb4 ?_ ?_ | refine bT hb3 ?_ ?_ | refine bT hb2 ?_ ?_ | refine bT hb1 ?_ ?_ | refine bT hbr ?_ ?_ | refine bT hb ?_ ?_) | (simp; done) | (simp; omega) | omega))⟩
      · rw [hq] at HC HNM
        cases hle : (decide (0 < k) && !(Op.bytesLess y x))
        · have hle2 : 0 < k → Op.bytesLess y x = true := fun h => by simpa [h] using hle
          have HC2 := Lib.hid (show keyAt o k = (!(x == wLength && (7 : Int) == 9) && kk != 0) by
            rw [HC.out]
            by_cases h0 : k = 0
            · subst h0; simp
            · have := hle2 (by omega)
              rw [bytesLess_eq] at this; rw [this]; simp)
          clear hle HC
          have HZ0 := Lib.hid (show kk = 0 ∨ ¬ kk = 0 from Classical.em _)
          by_cases hw : x = ([76, 101, 110, 103, 116, 104] : L)
          · subst hw
            cases hz : (kk == 0)
            · have HZ := Lib.hid hz
              by_cases h0 : 0 < k
              · have hp' := hp h0
                have h1 := hle2 h0
                clear hp hle2
                go_wp2_with (go_at_call 179; refine (HNM.out _).mono ?_; rintro e w1 ⟨rfl, rfl⟩)
                go_roundw
                case rel => exact ⟨k + 1, by omega, by go_num, by exact hb, Lib.hid (fun j hj => by
                  by_cases hjk : j < k
                  · exact HA.out j hjk
                  · have : j = k := by omega
                    subst this
                    rw [HC2.out]; have a2 := HZ.out; first | (simp [wLength]; done) | (simp [wLength] at a2 ⊢; exact a2) | (simp [wLength, HW.out] at a2 ⊢; exact a2))⟩
                case measure => simp [intOf]; omega
              · have hk0 : k = 0 := by omega
                subst hk0
                simp only [Nat.add_zero, Nat.zero_mul] at g1 g2
                clear hp hle2
                go_wp2_with (go_at_call 179; refine (HNM.out _).mono ?_; rintro e w1 ⟨rfl, rfl⟩)
                go_roundw
                case rel => exact ⟨1, by omega, by go_num, by exact hb, Lib.hid (fun j hj => by
                  by_cases hjk : j < 0
                  · exact HA.out j hjk
                  · have : j = 0 := by omega
                    subst this
                    rw [HC2.out]; have a2 := HZ.out; first | (simp [wLength]; done) | (simp [wLength] at a2 ⊢; exact a2) | (simp [wLength, HW.out] at a2 ⊢; exact a2))⟩
                case measure => simp [intOf]; omega
            · have HZ := Lib.hid hz
              by_cases h0 : 0 < k
              · have hp' := hp h0
                have h1 := hle2 h0
                clear hp hle2
                go_wp2_with (go_at_call 179; refine (HNM.out _).mono ?_; rintro e w1 ⟨rfl, rfl⟩)
                go_ret
                exact ⟨ret_bool (HF.out (by rw [HC2.out]; have a2 := HZ.out; first | (simp [wLength]; done) | (simp [wLength] at a2 ⊢; exact a2) | (simp [wLength, HW.out] at a2 ⊢; exact a2))).symm, (by repeat' (first | (with_reducible first | exact Below.refl _ _ | refine Below.drew ?_ | refine belowDrewN ?_ _ | refine belowIter ?_ ?_ _ _ | refine Below.setCell ?_ ?_ _ | refine Below.alloc ?_ ?_ _ | refine bT hb4 ?_ ?_ | refine bT hb3 ?_ ?_ | refine bT hb2 ?_ ?_ | refine bT hb1 ?_ ?_ | refine bT hbr ?_ ?_ | refine bT hb ?_ ?_) | (simp; done) | (simp; omega) | omega))⟩
              · have hk0 : k = 0 := by omega
                subst hk0
                simp only [Nat.add_zero, Nat.zero_mul] at g1 g2
                clear hp hle2
                go_wp2_with (go_at_call 179; refine (HNM.out _).mono ?_; rintro e w1 ⟨rfl, rfl⟩)
                go_ret
                exact ⟨ret_bool (HF.out (by rw [HC2.out]; have a2 := HZ.out; first | (simp [wLength]; done) | (simp [wLength] at a2 ⊢; exact a2) | (simp [wLength, HW.out] at a2 ⊢; exact a2))).symm, (by repeat' (first | (with_reducible first | exact Below.refl _ _ | refine Below.drew ?_ | refine belowDrewN ?_ _ | refine belowIter ?_ ?_ _ _ | refine Below.setCell ?_ ?_ _ | refine Below.alloc ?_ ?_ _ | refine bT hb4 ?_ ?_ | refine bT hb3 ?_ ?_ | refine bT hb2 ?_ ?_ | refine bT hb1 ?_ ?_ | refine bT hbr ?_ ?_ | refine bT hb ?_ ?_) | (simp; done) | (simp; omega) | omega))⟩
          · have hw' : (x == ([76, 101, 110, 103, 116, 104] : L)) = false := by simpa using hw
            have HW := Lib.hid hw'
            cases hz : (kk == 0)
            · have HZ := Lib.hid hz
              by_cases h0 : 0 < k
              · have hp' := hp h0
                have h1 := hle2 h0
                clear hp hle2
                go_wp2_with (go_at_call 179; refine (HNM.out _).mono ?_; rintro e w1 ⟨rfl, rfl⟩)
                go_roundw
                case rel => exact ⟨k + 1, by omega, by go_num, by exact hb, Lib.hid (fun j hj => by
                  by_cases hjk : j < k
                  · exact HA.out j hjk
                  · have : j = k := by omega
                    subst this
                    rw [HC2.out]; have a2 := HZ.out; first | (simp [wLength]; done) | (simp [wLength] at a2 ⊢; exact a2) | (simp [wLength, HW.out] at a2 ⊢; exact a2))⟩
                case measure => simp [intOf]; omega
              · have hk0 : k = 0 := by omega
                subst hk0
                simp only [Nat.add_zero, Nat.zero_mul] at g1 g2
                clear hp hle2
                go_wp2_with (go_at_call 179; refine (HNM.out _).mono ?_; rintro e w1 ⟨rfl, rfl⟩)
                go_roundw
                case rel => exact ⟨1, by omega, by go_num, by exact hb, Lib.hid (fun j hj => by
                  by_cases hjk : j < 0
                  · exact HA.out j hjk
                  · have : j = 0 := by omega
                    subst this
                    rw [HC2.out]; have a2 := HZ.out; first | (simp [wLength]; done) | (simp [wLength] at a2 ⊢; exact a2) | (simp [wLength, HW.out] at a2 ⊢; exact a2))⟩
                case measure => simp [intOf]; omega
            · have HZ := Lib.hid hz
              by_cases h0 : 0 < k
              · have hp' := hp h0
                have h1 := hle2 h0
                clear hp hle2
                go_wp2_with (go_at_call 179; refine (HNM.out _).mono ?_; rintro e w1 ⟨rfl, rfl⟩)
                go_ret
                exact ⟨ret_bool (HF.out (by rw [HC2.out]; have a2 := HZ.out; first | (simp [wLength]; done) | (simp [wLength] at a2 ⊢; exact a2) | (simp [wLength, HW.out] at a2 ⊢; exact a2))).symm, (by repeat' (first | (with_reducible first | exact Below.refl _ _ | refine Below.drew ?_ | refine belowDrewN ?_ _ | refine belowIter ?_ ?_ _ _ | refine Below.setCell ?_ ?_ _ | refine Below.alloc ?_ ?_ _ | refine bT hb4 ?_ ?_ | refine bT hb3 ?_ ?_ | refine bT hb2 ?_ ?_ | refine bT hb1 ?_ ?_ | refine bT hbr ?_ ?_ | refine bT hb ?_ ?_) | (simp; done) | (simp; omega) | omega))⟩
              · have hk0 : k = 0 := by omega
                subst hk0
                simp only [Nat.add_zero, Nat.zero_mul] at g1 g2
                clear hp hle2
                go_wp2_with (go_at_call 179; refine (HNM.out _).mono ?_; rintro e w1 ⟨rfl, rfl⟩)
                go_ret
                exact ⟨ret_bool (HF.out (by rw [HC2.out]; have a2 := HZ.out; first | (simp [wLength]; done) | (simp [wLength] at a2 ⊢; exact a2) | (simp [wLength, HW.out] at a2 ⊢; exact a2))).symm, (by repeat' (first | (with_reducible first | exact Below.refl _ _ | refine Below.drew ?_ | refine belowDrewN ?_ _ | refine belowIter ?_ ?_ _ _ | refine Below.setCell ?_ ?_ _ | refine Below.alloc ?_ ?_ _ | refine bT hb4 ?_ ?_ | refine bT hb3 ?_ ?_ | refine bT hb2 ?_ ?_ | refine bT hb1 ?_ ?_ | refine bT hbr ?_ ?_ | refine bT hb ?_ ?_) | (simp; done) | (simp; omega) | omega))⟩
        · have h0 : 0 < k := by simp at hle; exact hle.1
          have h1 : Op.bytesLess y x = false := by simp at hle; exact hle.2
          have HF1 := Lib.hid (HF.out (by rw [HC.out, ← bytesLess_eq, h1]; have : k ≠ 0 := by omega
                                          simp [this]))
          have hp' := hp h0
          clear hp hle
          go_wp2_with (go_at_call 179; refine (HNM.out _).mono ?_; rintro e w1 ⟨rfl, rfl⟩)
          go_ret
          exact ⟨ret_bool HF1.out.symm, (by repeat' (first | (with_reducible first | exact Below.refl _ _ | refine Below.drew ?_ | refine belowDrewN ?_ _ | refine belowIter ?_ ?_ _ _ | refine Below.setCell ?_ ?_ _ | refine Below.alloc ?_ ?_ _ | refine bT hb4 ?_ ?_ | refine bT hb3 ?_ ?_ | refine bT hb2 ?_ ?_ | refine bT hb1 ?_ ?_ | refine bT hbr ?_ ?_ | refine bT hb ?_ ?_) | (simp; done) | (simp; omega) | omega))⟩
    · have HE := Lib.hid (show keysB o = true by
        have hkn : k = n := by omega
        unfold keysB
        rw [if_neg (by rw [HK0.out]; decide), if_neg (by rw [HK0.out]; decide), HN.out.1, HN.out.2]
        simp only [beq_self_eq_true, Bool.true_and, List.all_eq_true, List.mem_range]
        intro j hj; exact HA.out j (by omega))
      go_wp2
      go_ret
      exact ⟨ret_bool HE.out.symm, (by repeat' (first | (with_reducible first | exact Below.refl _ _ | refine Below.drew ?_ | refine belowDrewN ?_ _ | refine belowIter ?_ ?_ _ _ | refine Below.setCell ?_ ?_ _ | refine Below.alloc ?_ ?_ _ | refine bT hb4 ?_ ?_ | refine bT hb3 ?_ ?_ | refine bT hb2 ?_ ?_ | refine bT hb1 ?_ ?_ | refine bT hbr ?_ ?_ | refine bT hb ?_ ?_) | (simp; done) | (simp; omega) | omega))⟩
set_option maxHeartbeats 1000000 in
theorem vkeys_stream (S : Nat → Prop) (d : Nat) (o : Ob) (b1 f1 c1 b2 f2 c2 : Nat) (w : World) (hK : KeysAt S w (.slice (some ⟨b1, f1, none⟩) o.keys.length c1) o.keys) (hR : RowAt S d w (.slice (some ⟨b2, f2, none⟩) o.kids.length c2) o.kids) (hS : ∀ b, S b → b < w.heap.size) (hk : o.kind = 9) (hl : o.keys.length = o.kids.length) (hle : o.keys.length ≤ 140737488355328) (hx : ∀ x ∈ o.keys, x.length ≤ 140737488355328) : Calls Tryz.prog 180 #[.agg #[.int .i64 o.kind, .int .i64 o.n, .int .i64 o.g, .string ⟨o.s.toArray⟩, .slice (some ⟨b1, f1, none⟩) o.keys.length c1, .slice (some ⟨b2, f2, none⟩) o.kids.length c2]] w fun e w' => e = .returned (.bool (keysB o)) ∧ Below w.heap.size w w' := by
  obtain ⟨n, hn⟩ : ∃ n, o.keys.length = n := ⟨_, rfl⟩
  have HK := Lib.hid hK
  have HR := Lib.hid hR
  have HS := Lib.hid hS
  have HX := Lib.hid hx
  rw [← hl, hn]
  rw [hn] at hle
  have HN := Lib.hid (And.intro hn (hl.symm.trans hn))
  rw [hk]
  have HK0 := Lib.hid hk
  clear hK hR hS hn hl hx hk
  go_enter Tryz.func180, Tryz.ntmps180
  go_wp2
  go_loopw [15] (fun i wr => ∃ k : Nat, k ≤ n ∧ i = .int .i64 k ∧ Below (w.heap.size + 1) (w.alloc (.cells #[.int .i64 9, .int .i64 o.n, .int .i64 o.g, .string ⟨o.s.toArray⟩, .slice (some ⟨b1, f1, none⟩) n c1, .slice (some ⟨b2, f2, none⟩) n c2] 26)) wr ∧ Hid (∀ j, j < k → keyAt o j = true)) (fun i _ => n - (intOf i).toNat)
  case atStart => exact ⟨0, Nat.zero_le _, rfl, (by repeat' (first | (with_reducible first | exact Below.refl _ _ | refine Below.drew ?_ | refine belowDrewN ?_ _ | refine belowIter ?_ ?_ _ _ | refine Below.setCell ?_ ?_ _ | refine Below.alloc ?_ ?_ _ | refine bT hb4 ?_ ?_ | refine bT hb3 ?_ ?_ | refine bT hb2 ?_ ?_ | refine bT hb1 ?_ ?_ | refine bT hbr ?_ ?_ | refine bT hb ?_ ?_) | (simp; done) | (simp; omega) | omega)), Lib.hid (by intro j hj; omega)⟩
  case round =>
    obtain ⟨k, hk, rfl, hb, HA⟩ := hrel
    by_cases hlt : k < n
    · have hbw : Below w.heap.size w wr := (show Below w.heap.size w (w.alloc _) from (by repeat' (first | (with_reducible first | exact Below.refl _ _ | refine Below.drew ?_ | refine belowDrewN ?_ _ | refine belowIter ?_ ?_ _ _ | refine Below.setCell ?_ ?_ _ | refine Below.alloc ?_ ?_ _ | refine bT hb4 ?_ ?_ | refine bT hb3 ?_ ?_ | refine bT hb2 ?_ ?_ | refine bT hb1 ?_ ?_ | refine bT hbr ?_ ?_ | refine bT hb ?_ ?_) | (simp; done) | (simp; omega) | omega))).trans (hb.mono (by omega))
      obtain ⟨s1, g1⟩ := key_at (HK.out.kept (fun b h => hbw.block b (HS.out b h))) rfl k (by rw [HN.out.1]; exact hlt)
      obtain ⟨s2, g2⟩ := rowKinds (HR.out.kept (fun b h => hbw.block b (HS.out b h))) rfl k (by rw [HN.out.2]; exact hlt)
      have hp : 0 < k → wr.cell? ⟨b1, f1 + (k - 1), none⟩ = some (.string ⟨(o.keys.getD (k - 1) []).toArray⟩) := fun h => (key_at (HK.out.kept (fun b h => hbw.block b (HS.out b h))) rfl (k - 1) (by rw [HN.out.1]; omega)).2
      obtain ⟨x, hx⟩ : ∃ x, o.keys.getD k [] = x := ⟨_, rfl⟩
      obtain ⟨y, hy⟩ : ∃ y, o.keys.getD (k - 1) [] = y := ⟨_, rfl⟩
      obtain ⟨kk, hkk⟩ : ∃ kk, (o.kids.getD k .zero).kind = kk := ⟨_, rfl⟩
      rw [hx] at g1
      rw [hy] at hp
      rw [hkk] at g2
      have c0 : wr.cell? ⟨w.heap.size, 0, none⟩ = some (.int .i64 9) := by rw [hb.cell (p := ⟨w.heap.size, 0, none⟩) (by show w.heap.size < _; omega)]; simp [World.cell?_alloc_at]
      have c4 : wr.cell? ⟨w.heap.size, 4, none⟩ = some (.slice (some ⟨b1, f1, none⟩) n c1) := by rw [hb.cell (p := ⟨w.heap.size, 4, none⟩) (by show w.heap.size < _; omega)]; simp [World.cell?_alloc_at]
      have c5 : wr.cell? ⟨w.heap.size, 5, none⟩ = some (.slice (some ⟨b2, f2, none⟩) n c2) := by rw [hb.cell (p := ⟨w.heap.size, 5, none⟩) (by show w.heap.size < _; omega)]; simp [World.cell?_alloc_at]
      have hxm : x.length ≤ 140737488355328 := by
        rw [← hx]; exact HX.out _ (by have : k < o.keys.length := by rw [HN.out.1]; exact hlt
                                      simp [List.getD, this])
      have HNM := Lib.hid (fun W => vkey_in x hxm W)
      have HC := Lib.hid (show keyAt o k = (nameB x && (k == 0 || decide (y < x)) && !(x == wLength && o.kind == 9) && kk != 0) by unfold keyAt; rw [hx, hy, hkk])
      have HF := Lib.hid (fun h => keysB_false (o := o) (k := k) (by rw [HK0.out]; decide) (by rw [HN.out.1]; exact hlt) h)
      have hk9 := HK0.out
      rw [hk9] at HC
      clear hx hy hkk hxm hbw hk9
      cases hq : nameB x
      · rw [hq] at HC HNM
        have HF1 := Lib.hid (HF.out (by rw [HC.out]; simp))
        clear hp hq
        go_wp2_with (go_at_call 179; refine (HNM.out _).mono ?_; rintro e w1 ⟨rfl, rfl⟩)
        all_goals go_ret
        all_goals exact ⟨ret_bool HF1.out.symm, (by repeat' (first | (with_reducible first | exact Below.refl _ _ | refine Below.drew ?_ | refine belowDrewN ?_ _ | refine belowIter ?_ ?_ _ _ | refine Below.setCell ?_ ?_ _ | refine Below.alloc ?_ ?_ _ | refine bT hb4 ?_ ?_ | refine bT hb3 ?_ ?_ | refine bT hb2 ?_ ?_ | refine bT hb1 ?_ ?_ | refine bT hbr ?_ ?_ | refine bT hb ?_ ?_) | (simp; done) | (simp; omega) | omega))⟩
      · rw [hq] at HC HNM
        cases hle : (decide (0 < k) && !(Op.bytesLess y x))
        · have hle2 : 0 < k → Op.bytesLess y x = true := fun h => by simpa [h] using hle
          have HC2 := Lib.hid (show keyAt o k = (!(x == wLength && (9 : Int) == 9) && kk != 0) by
            rw [HC.out]
            by_cases h0 : k = 0
            · subst h0; simp
            · have := hle2 (by omega)
              rw [bytesLess_eq] at this; rw [this]; simp)
          clear hle HC
          have HZ0 := Lib.hid (show kk = 0 ∨ ¬ kk = 0 from Classical.em _)
          by_cases hw : x = ([76, 101, 110, 103, 116, 104] : L)
          · subst hw
            have HZ := HZ0
            by_cases h0 : 0 < k
            · have hp' := hp h0
              have h1 := hle2 h0
              clear hp hle2
              go_wp2_with (go_at_call 179; refine (HNM.out _).mono ?_; rintro e w1 ⟨rfl, rfl⟩)
              go_ret
              exact ⟨ret_bool (HF.out (by rw [HC2.out]; have a2 := HZ.out; first | (simp [wLength]; done) | (simp [wLength] at a2 ⊢; exact a2) | (simp [wLength, HW.out] at a2 ⊢; exact a2))).symm, (by repeat' (first | (with_reducible first | exact Below.refl _ _ | refine Below.drew ?_ | refine belowDrewN ?_ _ | refine belowIter ?_ ?_ _ _ | refine Below.setCell ?_ ?_ _ | refine Below.alloc ?_ ?_ _ | refine bT hb4 ?_ ?_ | refine bT hb3 ?_ ?_ | refine bT hb2 ?_ ?_ | refine bT hb1 ?_ ?_ | refine bT hbr ?_ ?_ | refine bT hb ?_ ?_) | (simp; done) | (simp; omega) | omega))⟩
            · have hk0 : k = 0 := by omega
              subst hk0
              simp only [Nat.add_zero, Nat.zero_mul] at g1 g2
              clear hp hle2
              go_wp2_with (go_at_call 179; refine (HNM.out _).mono ?_; rintro e w1 ⟨rfl, rfl⟩)
              go_ret
              exact ⟨ret_bool (HF.out (by rw [HC2.out]; have a2 := HZ.out; first | (simp [wLength]; done) | (simp [wLength] at a2 ⊢; exact a2) | (simp [wLength, HW.out] at a2 ⊢; exact a2))).symm, (by repeat' (first | (with_reducible first | exact Below.refl _ _ | refine Below.drew ?_ | refine belowDrewN ?_ _ | refine belowIter ?_ ?_ _ _ | refine Below.setCell ?_ ?_ _ | refine Below.alloc ?_ ?_ _ | refine bT hb4 ?_ ?_ | refine bT hb3 ?_ ?_ | refine bT hb2 ?_ ?_ | refine bT hb1 ?_ ?_ | refine bT hbr ?_ ?_ | refine bT hb ?_ ?_) | (simp; done) | (simp; omega) | omega))⟩
          · have hw' : (x == ([76, 101, 110, 103, 116, 104] : L)) = false := by simpa using hw
            have HW := Lib.hid hw'
            cases hz : (kk == 0)
            · have HZ := Lib.hid hz
              by_cases h0 : 0 < k
              · have hp' := hp h0
                have h1 := hle2 h0
                clear hp hle2
                go_wp2_with (go_at_call 179; refine (HNM.out _).mono ?_; rintro e w1 ⟨rfl, rfl⟩)
                go_roundw
                case rel => exact ⟨k + 1, by omega, by go_num, by exact hb, Lib.hid (fun j hj => by
                  by_cases hjk : j < k
                  · exact HA.out j hjk
                  · have : j = k := by omega
                    subst this
                    rw [HC2.out]; have a2 := HZ.out; first | (simp [wLength]; done) | (simp [wLength] at a2 ⊢; exact a2) | (simp [wLength, HW.out] at a2 ⊢; exact a2))⟩
                case measure => simp [intOf]; omega
              · have hk0 : k = 0 := by omega
                subst hk0
                simp only [Nat.add_zero, Nat.zero_mul] at g1 g2
                clear hp hle2
                go_wp2_with (go_at_call 179; refine (HNM.out _).mono ?_; rintro e w1 ⟨rfl, rfl⟩)
                go_roundw
                case rel => exact ⟨1, by omega, by go_num, by exact hb, Lib.hid (fun j hj => by
                  by_cases hjk : j < 0
                  · exact HA.out j hjk
                  · have : j = 0 := by omega
                    subst this
                    rw [HC2.out]; have a2 := HZ.out; first | (simp [wLength]; done) | (simp [wLength] at a2 ⊢; exact a2) | (simp [wLength, HW.out] at a2 ⊢; exact a2))⟩
                case measure => simp [intOf]; omega
            · have HZ := Lib.hid hz
              by_cases h0 : 0 < k
              · have hp' := hp h0
                have h1 := hle2 h0
                clear hp hle2
                go_wp2_with (go_at_call 179; refine (HNM.out _).mono ?_; rintro e w1 ⟨rfl, rfl⟩)
                go_ret
                exact ⟨ret_bool (HF.out (by rw [HC2.out]; have a2 := HZ.out; first | (simp [wLength]; done) | (simp [wLength] at a2 ⊢; exact a2) | (simp [wLength, HW.out] at a2 ⊢; exact a2))).symm, (by repeat' (first | (with_reducible first | exact Below.refl _ _ | refine Below.drew ?_ | refine belowDrewN ?_ _ | refine belowIter ?_ ?_ _ _ | refine Below.setCell ?_ ?_ _ | refine Below.alloc ?_ ?_ _ | refine bT hb4 ?_ ?_ | refine bT hb3 ?_ ?_ | refine bT hb2 ?_ ?_ | refine bT hb1 ?_ ?_ | refine bT hbr ?_ ?_ | refine bT hb ?_ ?_) | (simp; done) | (simp; omega) | omega))⟩
              · have hk0 : k = 0 := by omega
                subst hk0
                simp only [Nat.add_zero, Nat.zero_mul] at g1 g2
                clear hp hle2
                go_wp2_with (go_at_call 179; refine (HNM.out _).mono ?_; rintro e w1 ⟨rfl, rfl⟩)
                go_ret
                exact ⟨ret_bool (HF.out (by rw [HC2.out]; have a2 := HZ.out; first | (simp [wLength]; done) | (simp [wLength] at a2 ⊢; exact a2) | (simp [wLength, HW.out] at a2 ⊢; exact a2))).symm, (by repeat' (first | (with_reducible first | exact Below.refl _ _ | refine Below.drew ?_ | refine belowDrewN ?_ _ | refine belowIter ?_ ?_ _ _ | refine Below.setCell ?_ ?_ _ | refine Below.alloc ?_ ?_ _ | refine bT hb4 ?_ ?_ | refine bT hb3 ?_ ?_ | refine bT hb2 ?_ ?_ | refine bT hb1 ?_ ?_ | refine bT hbr ?_ ?_ | refine bT hb ?_ ?_) | (simp; done) | (simp; omega) | omega))⟩
        · have h0 : 0 < k := by simp at hle; exact hle.1
          have h1 : Op.bytesLess y x = false := by simp at hle; exact hle.2
          have HF1 := Lib.hid (HF.out (by rw [HC.out, ← bytesLess_eq, h1]; have : k ≠ 0 := by omega
                                          simp [this]))
          have hp' := hp h0
          clear hp hle
          go_wp2_with (go_at_call 179; refine (HNM.out _).mono ?_; rintro e w1 ⟨rfl, rfl⟩)
          go_ret
          exact ⟨ret_bool HF1.out.symm, (by repeat' (first | (with_reducible first | exact Below.refl _ _ | refine Below.drew ?_ | refine belowDrewN ?_ _ | refine belowIter ?_ ?_ _ _ | refine Below.setCell ?_ ?_ _ | refine Below.alloc ?_ ?_ _ | refine bT hb4 ?_ ?_ | refine bT hb3 ?_ ?_ | refine bT hb2 ?_ ?_ | refine bT hb1 ?_ ?_ | refine bT hbr ?_ ?_ | refine bT hb ?_ ?_) | (simp; done) | (simp; omega) | omega))⟩
    · have HE := Lib.hid (show keysB o = true by
        have hkn : k = n := by omega
        unfold keysB
        rw [if_neg (by rw [HK0.out]; decide), if_neg (by rw [HK0.out]; decide), HN.out.1, HN.out.2]
        simp only [beq_self_eq_true, Bool.true_and, List.all_eq_true, List.mem_range]
        intro j hj; exact HA.out j (by omega))
      go_wp2
      go_ret
      exact ⟨ret_bool HE.out.symm, (by repeat' (first | (with_reducible first | exact Below.refl _ _ | refine Below.drew ?_ | refine belowDrewN ?_ _ | refine belowIter ?_ ?_ _ _ | refine Below.setCell ?_ ?_ _ | refine Below.alloc ?_ ?_ _ | refine bT hb4 ?_ ?_ | refine bT hb3 ?_ ?_ | refine bT hb2 ?_ ?_ | refine bT hb1 ?_ ?_ | refine bT hbr ?_ ?_ | refine bT hb ?_ ?_) | (simp; done) | (simp; omega) | omega))⟩
set_option maxHeartbeats 1000000 in
theorem vkeys_dif (o : Ob) (p1 p2 : Option Addr) (c1 c2 : Nat) (w : World) (h : o.kind = 7 ∨ o.kind = 9) (hl : o.keys.length ≠ o.kids.length) :
    Calls Tryz.prog 180 #[.agg #[.int .i64 o.kind, .int .i64 o.n, .int .i64 o.g, .string ⟨o.s.toArray⟩, .slice p1 o.keys.length c1, .slice p2 o.kids.length c2]] w fun e w' => e = .returned (.bool (keysB o)) ∧ Below w.heap.size w w' := by
  rcases h with hk | hk
  ·
    have HC := Lib.hid (show keysB o = false by unfold keysB; rw [if_neg (by omega), if_neg (by omega)]; simp [hl])
    rw [hk]
    clear hk
    have hl' : ((o.keys.length : Int) != (o.kids.length : Int)) = true := by simp; omega
    have hl2 : ¬ o.keys.length = o.kids.length := hl
    obtain ⟨n1, hn1⟩ : ∃ n, o.keys.length = n := ⟨_, rfl⟩
    obtain ⟨n2, hn2⟩ : ∃ n, o.kids.length = n := ⟨_, rfl⟩
    rw [hn1, hn2] at hl' hl2
    rw [hn1, hn2]
    clear hn1 hn2 hl
    go_enter Tryz.func180, Tryz.ntmps180
    go_wp2
    go_ret
    exact ⟨ret_bool HC.out.symm, (by repeat' (first | (with_reducible first | exact Below.refl _ _ | refine Below.drew ?_ | refine belowDrewN ?_ _ | refine belowIter ?_ ?_ _ _ | refine Below.setCell ?_ ?_ _ | refine Below.alloc ?_ ?_ _ | refine bT hb4 ?_ ?_ | refine bT hb3 ?_ ?_ | refine bT hb2 ?_ ?_ | refine bT hb1 ?_ ?_ | refine bT hbr ?_ ?_ | refine bT hb ?_ ?_) | (simp; done) | (simp; omega) | omega))⟩
  ·
    have HC := Lib.hid (show keysB o = false by unfold keysB; rw [if_neg (by omega), if_neg (by omega)]; simp [hl])
    rw [hk]
    clear hk
    have hl' : ((o.keys.length : Int) != (o.kids.length : Int)) = true := by simp; omega
    have hl2 : ¬ o.keys.length = o.kids.length := hl
    obtain ⟨n1, hn1⟩ : ∃ n, o.keys.length = n := ⟨_, rfl⟩
    obtain ⟨n2, hn2⟩ : ∃ n, o.kids.length = n := ⟨_, rfl⟩
    rw [hn1, hn2] at hl' hl2
    rw [hn1, hn2]
    clear hn1 hn2 hl
    go_enter Tryz.func180, Tryz.ntmps180
    go_wp2
    go_ret
    exact ⟨ret_bool HC.out.symm, (by repeat' (first | (with_reducible first | exact Below.refl _ _ | refine Below.drew ?_ | refine belowDrewN ?_ _ | refine belowIter ?_ ?_ _ _ | refine Below.setCell ?_ ?_ _ | refine Below.alloc ?_ ?_ _ | refine bT hb4 ?_ ?_ | refine bT hb3 ?_ ?_ | refine bT hb2 ?_ ?_ | refine bT hb1 ?_ ?_ | refine bT hbr ?_ ?_ | refine bT hb ?_ ?_) | (simp; done) | (simp; omega) | omega))⟩
set_option maxHeartbeats 1000000 in
theorem vkeys_nil (o : Ob) (p1 p2 : Option Addr) (c1 c2 : Nat) (w : World) (h : o.kind = 7 ∨ o.kind = 9) (h1 : o.keys.length = 0) (h2 : o.kids.length = 0) :
    Calls Tryz.prog 180 #[.agg #[.int .i64 o.kind, .int .i64 o.n, .int .i64 o.g, .string ⟨o.s.toArray⟩, .slice p1 o.keys.length c1, .slice p2 o.kids.length c2]] w fun e w' => e = .returned (.bool (keysB o)) ∧ Below w.heap.size w w' := by
  rcases h with hk | hk
  ·
    have HC := Lib.hid (show keysB o = true by unfold keysB; rw [if_neg (by omega), if_neg (by omega), h1, h2]; simp)
    rw [hk]
    clear hk
    rw [h1, h2]
    clear h1 h2
    go_enter Tryz.func180, Tryz.ntmps180
    go_wp2
    refine wp_loop_rounds 1 ?_
    rw [rounds_succ]
    go_wp2
    go_ret
    exact ⟨ret_bool HC.out.symm, (by repeat' (first | (with_reducible first | exact Below.refl _ _ | refine Below.drew ?_ | refine belowDrewN ?_ _ | refine belowIter ?_ ?_ _ _ | refine Below.setCell ?_ ?_ _ | refine Below.alloc ?_ ?_ _ | refine bT hb4 ?_ ?_ | refine bT hb3 ?_ ?_ | refine bT hb2 ?_ ?_ | refine bT hb1 ?_ ?_ | refine bT hbr ?_ ?_ | refine bT hb ?_ ?_) | (simp; done) | (simp; omega) | omega))⟩
  ·
    have HC := Lib.hid (show keysB o = true by unfold keysB; rw [if_neg (by omega), if_neg (by omega), h1, h2]; simp)
    rw [hk]
    clear hk
    rw [h1, h2]
    clear h1 h2
    go_enter Tryz.func180, Tryz.ntmps180
    go_wp2
    refine wp_loop_rounds 1 ?_
    rw [rounds_succ]
    go_wp2
    go_ret
    exact ⟨ret_bool HC.out.symm, (by repeat' (first | (with_reducible first | exact Below.refl _ _ | refine Below.drew ?_ | refine belowDrewN ?_ _ | refine belowIter ?_ ?_ _ _ | refine Below.setCell ?_ ?_ _ | refine Below.alloc ?_ ?_ _ | refine bT hb4 ?_ ?_ | refine bT hb3 ?_ ?_ | refine bT hb2 ?_ ?_ | refine bT hb1 ?_ ?_ | refine bT hbr ?_ ?_ | refine bT hb ?_ ?_) | (simp; done) | (simp; omega) | omega))⟩
/-- The look at keys, at a dictionary or a stream. -/
theorem vkeys_in (S : Nat → Prop) (d : Nat) (o : Ob) (kv dv : Value) (w : World) (hK : KeysAt S w kv o.keys) (hR : RowAt S d w dv o.kids)
    (hS : ∀ b, S b → b < w.heap.size) (hle : o.keys.length ≤ 140737488355328) (hx : ∀ x ∈ o.keys, x.length ≤ 140737488355328) (h79 : o.kind = 7 ∨ o.kind = 9) :
    Calls Tryz.prog 180 #[.agg #[.int .i64 o.kind, .int .i64 o.n, .int .i64 o.g, .string ⟨o.s.toArray⟩, kv, dv]] w fun e w' => e = .returned (.bool (keysB o)) ∧ Below w.heap.size w w' := by
  have a1 : ∃ p c, kv = .slice p o.keys.length c := by
    rcases hK with ⟨e, p, c, h⟩ | ⟨b, o, c, h, _⟩
    · exact ⟨_, _, by rw [e]; exact h⟩
    · exact ⟨_, _, h⟩
  have a2 : ∃ p c, dv = .slice p o.kids.length c := by
    rcases hR with ⟨e, p, c, h⟩ | ⟨b, o, c, h, _⟩
    · exact ⟨_, _, by rw [e]; exact h⟩
    · exact ⟨_, _, h⟩
  by_cases hl : o.keys.length = o.kids.length
  · by_cases h0 : o.keys.length = 0
    · obtain ⟨p1, c1, rfl⟩ := a1
      obtain ⟨p2, c2, rfl⟩ := a2
      exact vkeys_nil o p1 p2 c1 c2 w h79 h0 (by omega)
    · have hK' := hK
      have hR' := hR
      rcases hK with ⟨e, _⟩ | ⟨b1, f1, c1, rfl, _⟩
      · rw [e] at h0; exact absurd rfl h0
      · rcases hR with ⟨e, _⟩ | ⟨b2, f2, c2, rfl, _⟩
        · rw [e] at hl; simp at hl; simp [hl] at h0
        · rcases h79 with h | h
          · exact vkeys_dict S d o b1 f1 c1 b2 f2 c2 w hK' hR' hS h hl hle hx
          · exact vkeys_stream S d o b1 f1 c1 b2 f2 c2 w hK' hR' hS h hl hle hx
  · obtain ⟨p1, c1, rfl⟩ := a1
    obtain ⟨p2, c2, rfl⟩ := a2
    exact vkeys_dif o p1 p2 c1 c2 w h79 hl
end Go.Proofs.YtfgdhcemidlnfaaGreatDoor
