/- The walk of the statement that the program and the reference read alike. -/
import Derived.Test.YtpadlepdgnlgnaaGreatDoorRefFour
import Derived.Test.YtpadlepdgnlgnaaGreatDoorLives
set_option linter.all false
namespace Go.Proofs.YtpadlepdgnlgnaaGreatDoor
open Go.RowKit Fo

theorem small_succ : ∀ (d : Nat) (o : Ob), smallO d o → smallO (d + 1) o
  | 0, _, h => h.elim
  | d + 1, o, h => ⟨h.1, h.2.1, h.2.2.1, h.2.2.2.1, fun k hk => small_succ d k (h.2.2.2.2 k hk)⟩
theorem readS_lit {l r : L} {o : Ob} (h : readS l = .good (o, r)) : smallO 25 o := by
  unfold readS at h
  split at h
  · cases h
  · rename_i t r1 h1
    have h2 := objS_ok _ _ _ _ _ (nextS_ok h1) h
    exact small_succ 24 o (okO_small 24 o h2)
set_option maxHeartbeats 400000 in
theorem rsame06 (S : Nat → Prop) (d : Nat) (va vb : Value) (os : List Ob) (w : World) (hl : os.length ≤ 140737488355328) (hsm : ∀ o ∈ os, smallO d o) (ha : RowAt S d w va os) (hb : RowAt S d w vb os) (hS : ∀ b, S b → b < w.heap.size) :
    Calls Tryz.prog 16 #[va, vb] w fun e w' => e = .returned (.bool true) ∧ Below w.heap.size w w' := by
  have HL := Lib.hid (list_in S d (same_in S d) va vb os w hl hsm ha hb hS)
  clear ha hb hS
  go_enter Tryz.func16, Tryz.ntmps16
  go_wp2_with fail
  refine HL.out.mono ?_
  rintro e w1 ⟨rfl, hb1⟩
  go_wp2
  go_ret
  exact ⟨rfl, hb1⟩
theorem rmanyS_small : ∀ (n a : Nat) (l : L) (acc os : List Ob), manyS n a l acc = .all os → (∀ o ∈ acc, smallO 25 o) → ∀ o ∈ os, smallO 25 o
  | 0, _, _, _, _, h, _ => by cases h
  | n + 1, a, l, acc, os, h, ha => by
    rw [manyS] at h
    cases hn : (nextT l).2 with
    | bad e => rw [hn] at h; cases h
    | good t =>
      rw [hn] at h
      dsimp only at h
      by_cases hk : t.kind = 0
      · rw [if_pos hk] at h; cases h; exact ha
      · rw [if_neg hk] at h
        split at h
        · cases h
        · cases hR : readS l with
          | bad e => rw [hR] at h; cases h
          | good x =>
            obtain ⟨o, r⟩ := x
            rw [hR] at h
            refine rmanyS_small n _ r _ os h ?_
            intro y hy
            rw [List.mem_append] at hy
            rcases hy with hy | hy
            · exact ha y hy
            · simp only [List.mem_singleton] at hy; subst hy; exact (readS_lit hR)
/-- What a reading of one object hands back, said for both ends at once. -/
def obO : Res (Ob × L) → Ob | .bad _ => .zero | .good x => x.1
def obI (s : ByteArray) : Res (Ob × L) → Nat | .bad _ => 0 | .good x => s.size - x.2.length
def obK : Res (Ob × L) → Int | .bad k => k | .good _ => 0
def obW : Res Ob → Ob | .bad _ => .zero | .good o => o
def obE : Res Ob → Int | .bad k => k | .good _ => 0
def mnO : Mres → List Ob | .all os => os | .fault _ _ => []
def mnP : Mres → Nat | .all _ => 0 | .fault p _ => p
def mnE : Mres → Int | .all _ => 0 | .fault _ k => k
theorem obj_uni {s : ByteArray} {w w' : World} {R : Res (Ob × L)} {e : Ending} (h : ObjPost s w R e w') :
    ∃ (p1 : Option Addr) (n1 c1 : Nat) (p2 : Option Addr) (n2 c2 : Nat), e = .returned (.tuple #[.agg #[.int .i64 (obO R).kind, .int .i64 (obO R).n, .int .i64 (obO R).g, .string ⟨(obO R).s.toArray⟩, .slice p1 n1 c1, .slice p2 n2 c2], .int .i64 (obI s R), .int .i64 (obK R)]) ∧
      ObjAt (fun b => w.heap.size ≤ b) 25 w' (objCells (obO R).kind (obO R).n (obO R).g (obO R).s (.slice p1 n1 c1) (.slice p2 n2 c2)) (obO R) ∧ Below w.heap.size w w' := by
  cases R with
  | bad k => exact ⟨none, 0, 0, none, 0, 0, h.1, obV_at _ 24 w' 0 0 0 [], h.2⟩
  | good x =>
    obtain ⟨o, rest⟩ := x
    obtain ⟨p1, n1, c1, p2, n2, c2, z, rfl, h1, h2, h3, h4⟩ := h
    refine ⟨p1, n1, c1, p2, n2, c2, ?_, h3, h4⟩
    have : s.size - rest.length = z := by rw [h2, List.length_drop]; have : s.data.toList.length = s.size := rfl; omega
    simp only [obO, obI, obK, this]
theorem whole_uni {w w' : World} {R : Res Ob} {e : Ending} (h : WholePost w R e w') :
    ∃ (p1 : Option Addr) (n1 c1 : Nat) (p2 : Option Addr) (n2 c2 : Nat), e = .returned (.tuple #[.agg #[.int .i64 (obW R).kind, .int .i64 (obW R).n, .int .i64 (obW R).g, .string ⟨(obW R).s.toArray⟩, .slice p1 n1 c1, .slice p2 n2 c2], .int .i64 (obE R)]) ∧
      ObjAt (fun b => w.heap.size ≤ b) 25 w' (objCells (obW R).kind (obW R).n (obW R).g (obW R).s (.slice p1 n1 c1) (.slice p2 n2 c2)) (obW R) ∧ Below w.heap.size w w' := by
  cases R with
  | bad k => exact ⟨none, 0, 0, none, 0, 0, h.1, obV_at _ 24 w' 0 0 0 [], h.2⟩
  | good o => exact h
theorem many_uni {w w' : World} {T : Mres} {e : Ending} (h : ManyPost w T e w') :
    ∃ (p : Option Addr) (c : Nat), e = .returned (.tuple #[.slice p (mnO T).length c, .agg #[.int .i64 (mnP T), .int .i64 (mnE T)]]) ∧ RowAt (fun b => w.heap.size ≤ b) 25 w' (.slice p (mnO T).length c) (mnO T) ∧ (mnO T).length ≤ 8191 ∧ Below w.heap.size w w' := by
  cases T with
  | all os =>
    obtain ⟨p, c, h1, h2, h3, h4, h5⟩ := h
    exact ⟨p, c, h1, h3, h4, h5⟩
  | fault p k => exact ⟨none, 0, h.1, .inl ⟨rfl, _, _, rfl⟩, by simp [mnO], h.2⟩
theorem zero_small : smallO 25 Ob.zero := ⟨by simp [Ob.zero, Ob.keys], by simp [Ob.zero, Ob.kids], by simp [Ob.zero, Ob.s], by simp [Ob.zero, Ob.keys], by simp [Ob.zero, Ob.kids]⟩
theorem readS_obO {l : L} : smallO 25 (obO (readS l)) := by
  cases h : readS l with
  | bad k => exact zero_small
  | good x => obtain ⟨o, r⟩ := x; exact readS_lit h
theorem wholeS_obW {l : L} : smallO 25 (obW (wholeS l)) := by
  unfold wholeS
  cases h : readS l with
  | bad k => exact zero_small
  | good x =>
    obtain ⟨o, r⟩ := x
    dsimp only
    cases (nextT r).2 with
    | bad k => exact zero_small
    | good t =>
      dsimp only
      split
      · exact readS_lit h
      · exact zero_small
theorem manyS_mnO {n : Nat} {l : L} : ∀ o ∈ mnO (manyS n 0 l []), smallO 25 o := by
  cases h : manyS n 0 l [] with
  | all os => exact rmanyS_small _ _ _ _ _ h (by simp)
  | fault p k => simp [mnO]
set_option maxRecDepth 100000 in
set_option maxHeartbeats 1000000 in
theorem reads_long (s : ByteArray) (a : Int) (h3 : 3000 < s.size) (m : Int) (w : World) (hm : MaxW w m) :
    Calls Tryz.prog 3 #[.string s, .int .i64 a] w fun e w' => e = .returned (.bool true) ∧ Below w.heap.size w w' := by
  have HL := Lib.hid (fun W hm => lives_in m W hm)
  go_enter Tryz.func3, Tryz.ntmps3
  go_wp2_with fail
  refine (HL.out _ (hm.below (by repeat' (first | (with_reducible exact Below.refl _ _) | (with_reducible refine Below.drew ?_) | (with_reducible refine belowDrewN ?_ _) | (with_reducible refine belowIter ?_ ?_ _ _) | (with_reducible refine Below.setCell ?_ ?_ _) | (with_reducible refine Below.alloc ?_ ?_ _) | (with_reducible refine Below.trans ?_ (Below.mono hb4 ?_)) | (with_reducible refine Below.trans ?_ (Below.mono hb3 ?_)) | (with_reducible refine Below.trans ?_ (Below.mono hb2 ?_)) | (with_reducible refine Below.trans ?_ (Below.mono hb1 ?_)) | (with_reducible refine Below.trans ?_ (Below.mono hbr ?_)) | (with_reducible refine Below.trans ?_ (Below.mono hb ?_)) | (simp; done) | (simp; omega) | omega)))).mono ?_
  rintro e w1 ⟨rfl, hb1⟩
  go_wp2
  go_ret
  exact ⟨rfl, (by repeat' (first | (with_reducible exact Below.refl _ _) | (with_reducible refine Below.drew ?_) | (with_reducible refine belowDrewN ?_ _) | (with_reducible refine belowIter ?_ ?_ _ _) | (with_reducible refine Below.setCell ?_ ?_ _) | (with_reducible refine Below.alloc ?_ ?_ _) | (with_reducible refine Below.trans ?_ (Below.mono hb4 ?_)) | (with_reducible refine Below.trans ?_ (Below.mono hb3 ?_)) | (with_reducible refine Below.trans ?_ (Below.mono hb2 ?_)) | (with_reducible refine Below.trans ?_ (Below.mono hb1 ?_)) | (with_reducible refine Below.trans ?_ (Below.mono hbr ?_)) | (with_reducible refine Below.trans ?_ (Below.mono hb ?_)) | (simp; done) | (simp; omega) | omega))⟩
set_option maxRecDepth 100000 in
set_option maxHeartbeats 2000000 in
theorem reads_walk (s : ByteArray) (a : Int) (h3 : ¬ 3000 < s.size) (m : Int) (w : World) (hm : MaxW w m) (R : Res (Ob × L)) (hRs : smallO 25 (obO R))
    (HO1 : ∀ W, MaxW W m → Calls Tryz.prog 9 #[.string s, .int .i64 a] W (ObjPost s W R))
    (HO2 : ∀ W, Calls Tryz.prog 10 #[.string s, .int .i64 a] W (ObjPost s W R)) :
    Calls Tryz.prog 3 #[.string s, .int .i64 a] w fun e w' => e = .returned (.bool true) ∧ Below w.heap.size w w' := by
  have hs : s.size ≤ 140737488355327 := by omega
  have HL := Lib.hid (fun W hm => lives_in m W hm)
  have h1 := Lib.hid HO1
  have h2 := Lib.hid HO2
  have hw1 := fun W hm => Whole_in s hs m W hm
  have hw2 := fun W => rWhole_in s (by omega) W
  have hm1 := fun W hm => Many_in s hs m W hm
  have hm2 := fun W hm => rMany_in s (by omega) m W hm
  have hsw := wholeS_obW (l := s.data.toList)
  have hsm := manyS_mnO (n := s.size + 1) (l := s.data.toList)
  obtain ⟨Q, hQ⟩ : ∃ Q, wholeS s.data.toList = Q := ⟨_, rfl⟩
  obtain ⟨T, hT⟩ : ∃ T, manyS (s.size + 1) 0 s.data.toList [] = T := ⟨_, rfl⟩
  rw [hQ] at hw1 hw2 hsw
  rw [hT] at hm1 hm2 hsm
  have HW1 := Lib.hid hw1
  have HW2 := Lib.hid hw2
  have HM1 := Lib.hid hm1
  have HM2 := Lib.hid hm2
  obtain ⟨o, ho⟩ : ∃ o, obO R = o := ⟨_, rfl⟩
  obtain ⟨oi, hoi⟩ : ∃ i, (obI s R : Int) = i := ⟨_, rfl⟩
  obtain ⟨ok, hok⟩ : ∃ k, obK R = k := ⟨_, rfl⟩
  obtain ⟨q, hq⟩ : ∃ q, obW Q = q := ⟨_, rfl⟩
  obtain ⟨qe, hqe⟩ : ∃ q, obE Q = q := ⟨_, rfl⟩
  obtain ⟨os, hos⟩ : ∃ q, mnO T = q := ⟨_, rfl⟩
  obtain ⟨fp, hfp⟩ : ∃ q, (mnP T : Int) = q := ⟨_, rfl⟩
  obtain ⟨fe, hfe⟩ : ∃ q, mnE T = q := ⟨_, rfl⟩
  have UO := Lib.hid (fun W W' e (h : ObjPost s W R e W') => obj_uni h)
  have UW := Lib.hid (fun W W' e (h : WholePost W Q e W') => whole_uni h)
  have UM := Lib.hid (fun W W' e (h : ManyPost W T e W') => many_uni h)
  rw [ho, hoi, hok] at UO
  rw [hq, hqe] at UW
  rw [hos, hfp, hfe] at UM
  rw [ho] at hRs
  rw [hq] at hsw
  rw [hos] at hsm
  have S1 := Lib.hid hRs
  have S2 := Lib.hid hsw
  have S3 := Lib.hid hsm
  clear hQ hT ho hoi hok hq hqe hos hfp hfe hw1 hw2 hm1 hm2 HO1 HO2 hRs hsw hsm
  go_enter Tryz.func3, Tryz.ntmps3
  go_wp2_with fail
  refine (h1.out _ (hm.below (by repeat' (first | (with_reducible exact Below.refl _ _) | (with_reducible refine Below.drew ?_) | (with_reducible refine belowDrewN ?_ _) | (with_reducible refine belowIter ?_ ?_ _ _) | (with_reducible refine Below.setCell ?_ ?_ _) | (with_reducible refine Below.alloc ?_ ?_ _) | (with_reducible refine Below.trans ?_ (Below.mono hb4 ?_)) | (with_reducible refine Below.trans ?_ (Below.mono hb3 ?_)) | (with_reducible refine Below.trans ?_ (Below.mono hb2 ?_)) | (with_reducible refine Below.trans ?_ (Below.mono hb1 ?_)) | (with_reducible refine Below.trans ?_ (Below.mono hbr ?_)) | (with_reducible refine Below.trans ?_ (Below.mono hb ?_)) | (simp; done) | (simp; omega) | omega)))).mono ?_
  intro e w1 hp
  obtain ⟨p1, n1, c1, p2, n2, c2, rfl, A1, hb1⟩ := UO.out _ _ _ hp
  clear hp
  have m1 := hm.below hb1
  have hz1 := hb1.size
  go_wp2_with fail
  refine (h2.out _).mono ?_
  intro e w2 hp
  obtain ⟨p3, n3, c3, p4, n4, c4, rfl, A2, hb2⟩ := UO.out _ _ _ hp
  clear hp
  have m2 := maxStep m1 hb2
  have hz2 := sizeStep hb2
  go_wp2_with fail
  refine (HW1.out _ (m2.below (by repeat' (first | (with_reducible exact Below.refl _ _) | (with_reducible refine Below.drew ?_) | (with_reducible refine belowDrewN ?_ _) | (with_reducible refine belowIter ?_ ?_ _ _) | (with_reducible refine Below.setCell ?_ ?_ _) | (with_reducible refine Below.alloc ?_ ?_ _) | (with_reducible refine Below.trans ?_ (Below.mono hb4 ?_)) | (with_reducible refine Below.trans ?_ (Below.mono hb3 ?_)) | (with_reducible refine Below.trans ?_ (Below.mono hb2 ?_)) | (with_reducible refine Below.trans ?_ (Below.mono hb1 ?_)) | (with_reducible refine Below.trans ?_ (Below.mono hbr ?_)) | (with_reducible refine Below.trans ?_ (Below.mono hb ?_)) | (simp; done) | (simp; omega) | omega)))).mono ?_
  intro e w3 hp
  obtain ⟨p5, n5, c5, p6, n6, c6, rfl, A3, hb3⟩ := UW.out _ _ _ hp
  clear hp
  have m3 := maxStep m2 hb3
  have hz3 := sizeStep hb3
  go_wp2_with fail
  refine (HW2.out _).mono ?_
  intro e w4 hp
  obtain ⟨p7, n7, c7, p8, n8, c8, rfl, A4, hb4⟩ := UW.out _ _ _ hp
  clear hp
  have m4 := maxStep m3 hb4
  have hz4 := sizeStep hb4
  go_wp2_with fail
  refine (HM1.out _ (m4.below (by repeat' (first | (with_reducible exact Below.refl _ _) | (with_reducible refine Below.drew ?_) | (with_reducible refine belowDrewN ?_ _) | (with_reducible refine belowIter ?_ ?_ _ _) | (with_reducible refine Below.setCell ?_ ?_ _) | (with_reducible refine Below.alloc ?_ ?_ _) | (with_reducible refine Below.trans ?_ (Below.mono hb4 ?_)) | (with_reducible refine Below.trans ?_ (Below.mono hb3 ?_)) | (with_reducible refine Below.trans ?_ (Below.mono hb2 ?_)) | (with_reducible refine Below.trans ?_ (Below.mono hb1 ?_)) | (with_reducible refine Below.trans ?_ (Below.mono hbr ?_)) | (with_reducible refine Below.trans ?_ (Below.mono hb ?_)) | (simp; done) | (simp; omega) | omega)))).mono ?_
  intro e w5 hp
  obtain ⟨pa, ca, rfl, A5, hl5, hb5⟩ := UM.out _ _ _ hp
  clear hp
  have m5 := maxStep m4 hb5
  have hz5 := sizeStep hb5
  go_wp2_with fail
  refine (HM2.out _ (m5.below (by repeat' (first | (with_reducible exact Below.refl _ _) | (with_reducible refine Below.drew ?_) | (with_reducible refine belowDrewN ?_ _) | (with_reducible refine belowIter ?_ ?_ _ _) | (with_reducible refine Below.setCell ?_ ?_ _) | (with_reducible refine Below.alloc ?_ ?_ _) | (with_reducible refine Below.trans ?_ (Below.mono hb4 ?_)) | (with_reducible refine Below.trans ?_ (Below.mono hb3 ?_)) | (with_reducible refine Below.trans ?_ (Below.mono hb2 ?_)) | (with_reducible refine Below.trans ?_ (Below.mono hb1 ?_)) | (with_reducible refine Below.trans ?_ (Below.mono hbr ?_)) | (with_reducible refine Below.trans ?_ (Below.mono hb ?_)) | (simp; done) | (simp; omega) | omega)))).mono ?_
  intro e w6 hp
  obtain ⟨pb, cb, rfl, A6, hl6, hb6⟩ := UM.out _ _ _ hp
  clear hp
  have m6 := maxStep m5 hb6
  have hz6 := sizeStep hb6
  obtain ⟨n, hn⟩ : ∃ n, os.length = n := ⟨_, rfl⟩
  rw [hn] at A5 A6 hl5 hl6
  rw [hn]
  have HNN := Lib.hid hn
  clear hn
  go_upto_region 9 with fail
  obtain ⟨w7, hw7⟩ : ∃ w7, w6.alloc (.cells #[.int .i64 fp, .int .i64 fe] 33) = w7 := ⟨_, rfl⟩
  go_must (rw [hw7])
  have hb7 : Below w6.heap.size w6 w7 := by rw [← hw7]; exact (by repeat' (first | (with_reducible exact Below.refl _ _) | (with_reducible refine Below.setCell ?_ ?_ _) | (with_reducible refine Below.alloc ?_ ?_ _) | (show _ ≤ _; simp; done) | (show _ ≤ _; simp; omega) | omega))
  have HG : w7.heap[w6.heap.size]? = some (.cells #[.int .i64 fp, .int .i64 fe] 33 (0, 0)) := by rw [← hw7]; exact new_at _ _
  have m7 := m6.below hb7
  clear hw7
  have hz7 := hb7.size
  have h67 := hb7
  have h56 := belowStep (Below.refl w5.heap.size w5) (Nat.le_refl _) hb6
  have h57 := h56.trans (hb7.mono h56.size)
  have h45 := belowStep (Below.refl w4.heap.size w4) (Nat.le_refl _) hb5
  have h47 := h45.trans (h57.mono h45.size)
  have h34 := belowStep (Below.refl w3.heap.size w3) (Nat.le_refl _) hb4
  have h37 := h34.trans (h47.mono h34.size)
  have h23 := belowStep (Below.refl w2.heap.size w2) (Nat.le_refl _) hb3
  have h27 := h23.trans (h37.mono h23.size)
  have h12 := belowStep (Below.refl w1.heap.size w1) (Nat.le_refl _) hb2
  have h17 := h12.trans (h27.mono h12.size)
  have HA := (h27.block _ (by omega)).trans ((hb2.block w1.heap.size (by simp)).trans (new_at w1 _))
  have HB := (h37.block _ (by omega)).trans ((hb3.block w2.heap.size (by simp)).trans (new_at w2 _))
  have HC := (h47.block _ (by omega)).trans ((hb4.block w3.heap.size (by simp)).trans (new_at w3 _))
  have HD := (h57.block _ (by omega)).trans ((hb5.block w4.heap.size (by simp)).trans (new_at w4 _))
  have HF := (h67.block _ (by omega)).trans ((hb6.block w5.heap.size (by simp)).trans (new_at w5 _))
  have s1 := h17.size
  have s2 := h27.size
  have s3 := h37.size
  have s4 := h47.size
  have s5 := h57.size
  have HX := Lib.hid (fun (W : World) (hW : Below w7.heap.size w7 W) => same_in (fun b => b < w7.heap.size) 25 W _ _ o
    (ObjAt.grow (S' := fun b => b < w7.heap.size) A1 (fun b h1 h2 => ⟨by omega, (h17.trans (hW.mono (by omega))).block b h2⟩))
    (ObjAt.grow (S' := fun b => b < w7.heap.size) A2 (fun b h1 h2 => ⟨by omega, (h27.trans (hW.mono (by omega))).block b h2⟩)) S1.out (fun b h => Nat.lt_of_lt_of_le h hW.size))
  have HY := Lib.hid (fun (W : World) (hW : Below w7.heap.size w7 W) => same_in (fun b => b < w7.heap.size) 25 W _ _ q
    (ObjAt.grow (S' := fun b => b < w7.heap.size) A3 (fun b h1 h2 => ⟨by omega, (h37.trans (hW.mono (by omega))).block b h2⟩))
    (ObjAt.grow (S' := fun b => b < w7.heap.size) A4 (fun b h1 h2 => ⟨by omega, (h47.trans (hW.mono (by omega))).block b h2⟩)) S2.out (fun b h => Nat.lt_of_lt_of_le h hW.size))
  unfold objCells at HX HY
  have HZ := Lib.hid (fun (W : World) (hW : Below w7.heap.size w7 W) => rsame06 (fun b => b < w7.heap.size) 25 (.slice pa n ca) (.slice pb n cb) os W (by rw [HNN.out]; omega) S3.out
    (RowAt.grow A5 (fun b h1 h2 => ⟨by omega, (h57.trans (hW.mono (by omega))).block b h2⟩))
    (RowAt.grow A6 (fun b h1 h2 => ⟨by omega, (h67.trans (hW.mono (by omega))).block b h2⟩)) (fun b h => Nat.lt_of_lt_of_le h hW.size))
  have hbw7 : Below w.heap.size w w7 := hb1.trans (h17.mono hz1)
  clear A1 A2 A3 A4 A5 A6 h12 h23 h34 h45 h56 h17 h27 h37 h47 h57 h67 hb1 hb2 hb3 hb4 hb5 hb6 hb7 m1 m2 m3 m4 m5 m6 HW1 HW2 HM1 HM2 UO UW UM h1 h2
  obtain ⟨a0, a1, a2, a3, a4, a5, af⟩ := six_at HA
  obtain ⟨b0, b1, b2, b3, b4, b5, bf⟩ := six_at HB
  have lC := lt_of_block HC
  have lD := lt_of_block HD
  have lF := lt_of_block HF
  have lG := lt_of_block HG
  go_wp2_with fail
  refine (HX.out _ (Below.refl _ _)).mono ?_
  rintro e v1 ⟨rfl, hv1⟩
  have HC1 := (hv1.block _ lC).trans HC
  have HD1 := (hv1.block _ lD).trans HD
  have HF1 := (hv1.block _ lF).trans HF
  have HG1 := (hv1.block _ lG).trans HG
  clear HA HB HC HD HF HG a0 a1 a2 a3 a4 a5 af b0 b1 b2 b3 b4 b5 bf HX
  obtain ⟨a0, a1, a2, a3, a4, a5, af⟩ := six_at HC1
  obtain ⟨b0, b1, b2, b3, b4, b5, bf⟩ := six_at HD1
  go_wp2_with fail
  refine (HY.out _ hv1).mono ?_
  rintro e v2 ⟨rfl, hv2⟩
  have u1 := hv1.size
  have hv12 := hv1.trans (hv2.mono u1)
  have HF2 := (hv2.block _ (by omega)).trans HF1
  have HG2 := (hv2.block _ (by omega)).trans HG1
  clear HC1 HD1 HF1 HG1 a0 a1 a2 a3 a4 a5 af b0 b1 b2 b3 b4 b5 bf HY
  go_wp2_with fail
  refine (HZ.out _ hv12).mono ?_
  rintro e v3 ⟨rfl, hv3⟩
  have u2 := hv12.size
  have hv13 := hv12.trans (hv3.mono u2)
  obtain ⟨f0, f1, ff⟩ := two_of ((hv3.block _ (by omega)).trans HF2)
  obtain ⟨g0, g1, gf⟩ := two_of ((hv3.block _ (by omega)).trans HG2)
  have m8 := m7.below hv13
  clear HF2 HG2 hv1 hv2 hv3 hv12 HZ
  go_wp2_with fail
  refine (HL.out _ m8).mono ?_
  rintro e v4 ⟨rfl, hv4⟩
  have hbw3 : Below w.heap.size w v3 := hbw7.trans (hv13.mono hbw7.size)
  have hbw4 : Below w.heap.size w v4 := hbw3.trans (hv4.mono hbw3.size)
  go_wp2
  go_ret
  exact ⟨rfl, hbw4⟩
theorem reads_in (s : ByteArray) (a : Int) (m : Int) (w : World) (hm : MaxW w m) :
    Calls Tryz.prog 3 #[.string s, .int .i64 a] w fun e w' => e = .returned (.bool true) ∧ Below w.heap.size w w' := by
  by_cases h3 : 3000 < s.size
  · exact reads_long s a h3 m w hm
  by_cases ha : a < 0 ∨ (s.size : Int) < a
  · exact reads_walk s a h3 m w hm (.bad 1) zero_small (fun W _ => Object_arg s a ha W) (fun W => rObject_arg s a ha W)
  · obtain ⟨n, rfl⟩ : ∃ n : Nat, a = n := ⟨a.toNat, by omega⟩
    exact reads_walk s n h3 m w hm _ readS_obO (fun W hW => Object_in s n (by omega) (by omega) m W hW) (fun W => rObject_in s (by omega) n (by omega) W)
end Go.Proofs.YtpadlepdgnlgnaaGreatDoor
