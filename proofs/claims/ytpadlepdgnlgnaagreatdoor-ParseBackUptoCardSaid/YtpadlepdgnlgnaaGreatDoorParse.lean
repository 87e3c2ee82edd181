/- The walk of parse's object reader, all levels. -/
import Derived.Test.YtpadlepdgnlgnaaGreatDoorDict
set_option linter.all false
namespace Go.Proofs.YtpadlepdgnlgnaaGreatDoor
open Go.RowKit Fo

theorem leaf_post {r : Nat} {s : ByteArray} {d a : Nat} {w w' : World} {k n g : Int} {x : L} {e : Ending} (he : e = .returned (obV k n g x)) (hb : Below w.heap.size w w') (ha : a ≤ s.size) (hr : RdAt w r s a) :
    RdPost r s (d + 1) w (.good (.mk k n g x [] [], s.data.toList.drop a)) e w' :=
  ⟨_, a, he, ha, rfl, obV_at _ d w' k n g x, hr.below hb, .of_below hb⟩
theorem obj_zero (s : ByteArray) (m : Int) : ObjC s m 0 := by
  intro r a p t w ha hm hr hp hk h6 h0
  rw [objS]
  cases hb : beginsS t
  · refine (object_no r t p a (24 - ((0 : Nat) : Int)) hb w).mono ?_
    rintro e w' ⟨he, hw⟩
    exact ⟨he, .of_below hw⟩
  · refine (object_deep r t p a hb w).mono ?_
    rintro e w' ⟨he, hw⟩
    exact ⟨he, .of_below hw⟩
theorem obj_step (s : ByteArray) (hs : s.size ≤ 140737488355327) (m : Int) (d : Nat) (hd : d < 24) (HA : ArrC s m d) (HD : DictC s m d) : ObjC s m (d + 1) := by
  intro r a p t w ha hm hr hp hk h6 h0
  have hd0 : (24 : Int) - ((d + 1 : Nat) : Int) < 24 := by omega
  rw [objS]
  cases hb : beginsS t
  · refine (object_no r t p a _ hb w).mono ?_
    rintro e w' ⟨he, hw⟩
    exact ⟨he, .of_below hw⟩
  simp only [if_true]
  by_cases k1 : t.kind = 1
  · rw [if_pos k1]
    cases hn : refS t (s.data.toList.drop a) with
    | none =>
      refine (object_int s a a r t p _ hd0 hb w ha hs m hm hr k1 hn).mono ?_
      rintro e w' ⟨he, hw⟩
      exact leaf_post he hw ha hr
    | some x =>
      obtain ⟨g, rest⟩ := x
      refine (object_ref s a a r t p _ hd0 hb w ha hs m hm hr k1 g rest hn).mono ?_
      rintro e w' ⟨z, hz1, hz2, he, hR, hB⟩
      exact ⟨_, z, he, hz1, hz2.symm, obV_at _ _ w' 8 t.n g [], hR, hB⟩
  rw [if_neg k1]
  by_cases k2 : t.kind = 2
  · rw [if_pos k2]
    refine (object_real r t p a _ hd0 hb w k2).mono ?_
    rintro e w' ⟨he, hw⟩
    exact leaf_post he hw ha hr
  rw [if_neg k2]
  by_cases k3 : t.kind = 3
  · rw [if_pos k3]
    refine (object_str r t p a _ hd0 hb w k3).mono ?_
    rintro e w' ⟨he, hw⟩
    exact leaf_post he hw ha hr
  rw [if_neg k3]
  by_cases k4 : t.kind = 4
  · rw [if_pos k4]
    refine (object_name r t p a _ hd0 hb w k4).mono ?_
    rintro e w' ⟨he, hw⟩
    exact leaf_post he hw ha hr
  rw [if_neg k4]
  by_cases k5 : t.kind = 5
  · rw [if_pos k5]
    by_cases hn : t.s = wNull
    · rw [if_pos hn]
      refine (object_null r t p a _ hd0 hb w k5 hn).mono ?_
      rintro e w' ⟨he, hw⟩
      exact leaf_post he hw ha hr
    · rw [if_neg hn]
      refine (object_bool r t p a _ hd0 hb w k5 hn).mono ?_
      rintro e w' ⟨he, hw⟩
      exact leaf_post he hw ha hr
  rw [if_neg k5]
  have k6 : t.kind = 6 := by omega
  by_cases hn : t.s = [91]
  · rw [if_pos hn]
    have := object_arr s a a r t p (24 - ((d + 1 : Nat) : Int)) hd0 (by omega) hb w hs m hm hr k6 hn (d + 2) _ (fun W hW hR => by
      have := HA r a W ha hW hR
      rw [show (24 : Int) - ((d + 1 : Nat) : Int) + 1 = 24 - (d : Int) by omega]; exact this)
    exact this
  · rw [if_neg hn]
    have := object_dict s a a r t p (24 - ((d + 1 : Nat) : Int)) hd0 (by omega) hb w hs m hm hr k6 hn (d + 2) _ (fun W hW hR => by
      have := HD r a W ha hW hR
      rw [show (24 : Int) - ((d + 1 : Nat) : Int) + 1 = 24 - (d : Int) by omega]; exact this)
    exact this
theorem obj_in (s : ByteArray) (hs : s.size ≤ 140737488355327) (m : Int) : ∀ d, d ≤ 24 → ObjC s m d
  | 0, _ => obj_zero s m
  | d + 1, h => obj_step s hs m d (by omega) (array_in s m d hs (by omega) (obj_in s hs m d (by omega))) (dict_in s m d hs (by omega) (obj_in s hs m d (by omega)))
end Go.Proofs.YtpadlepdgnlgnaaGreatDoor
