/- The statement on depth: the plain law, and the walk of R05.Depth. -/
import Derived.Test.YtpadlepdgnlgnaaGreatDoorMay
set_option linter.all false
namespace Go.Proofs.YtpadlepdgnlgnaaGreatDoor
open Go.RowKit Fo

def opn : Bool → L
  | true => [91]
  | false => [60, 60, 47, 75]
def cls : Bool → L
  | true => [93]
  | false => [62, 62]
def hdL : List Bool → L
  | [] => []
  | b :: bs => opn b ++ hdL bs
def tlL : List Bool → L
  | [] => []
  | b :: bs => tlL bs ++ cls b
def nestO : List Bool → Ob
  | [] => .int 7
  | true :: bs => .mk 6 0 0 [] [] [nestO bs]
  | false :: bs => .mk 7 0 0 [] [[75]] [nestO bs]
theorem hdL_snoc (bs : List Bool) (b : Bool) : hdL (bs ++ [b]) = hdL bs ++ opn b := by
  induction bs with
  | nil => simp [hdL]
  | cons c bs ih => simp [hdL, ih]
theorem tlL_snoc (bs : List Bool) (b : Bool) : tlL (bs ++ [b]) = cls b ++ tlL bs := by
  induction bs with
  | nil => simp [tlL]
  | cons c bs ih => simp [tlL, ih]
theorem nestO_kind (bs : List Bool) : ((nestO bs).kind != 0) = true := by
  cases bs with
  | nil => rfl
  | cons b bs => cases b <;> rfl
def stopL (r : L) : Prop := r = [] ∨ (∃ r', r = 93 :: r') ∨ (∃ r', r = 62 :: 62 :: r')
theorem nestDict (o : Ob) (h : (o.kind != 0) = true) : mkDict [([75], o)] = .mk 7 0 0 [] [[75]] [o] := by
  unfold mkDict
  simp [h, isort, insL]
theorem regN_hd (bs : List Bool) (x : L) : regN (hdL bs ++ 32 :: x) = 0 := by
  cases bs with
  | nil => rfl
  | cons b bs => cases b <;> rfl
theorem name_tok (x : L) (h : regN x = 0) : nextS (47 :: 75 :: x) = .good (⟨4, 2, 0, [75]⟩, x) := by
  have h1 : regN (75 :: x) = 1 := by
    rw [regN, if_pos (by decide), h]
  have h2 : nextT (47 :: 75 :: x) = (0, .good ⟨4, 2, 0, [75]⟩) := by
    have h3 : tokT (47 :: 75 :: x) = nameT (75 :: x) := rfl
    have h4 : nameT (75 :: x) = .good ⟨4, 2, 0, [75]⟩ := by
      unfold nameT
      rw [h1]
      rfl
    have h5 : skipN false (47 :: 75 :: x) = 0 := rfl
    unfold nextT
    rw [h5, List.drop_zero, if_neg (by simp), h3, h4]
  unfold nextS
  rw [h2]
  rfl
theorem objS_int {d : Nat} {t : Tok} {l : L} (hb : beginsS t = true) (hk : t.kind = 1) (hr : refS t l = none) : objS (d + 1) t l = .good (.int t.n, l) := by
  rw [objS, if_pos hb, if_pos hk, hr]
theorem objS_arr {d : Nat} {t : Tok} {l : L} (hb : beginsS t = true) (hk : t.kind = 6) (hs : t.s = [91]) : objS (d + 1) t l = match arrS (objS d) d (l.length + 1) l [] with
    | .bad e => .bad e
    | .good (ks, r) => .good (.mk 6 0 0 [] [] ks, r) := by
  rw [objS, if_pos hb, if_neg (by omega), if_neg (by omega), if_neg (by omega), if_neg (by omega), if_neg (by omega), if_pos hs]
  rfl
theorem objS_dict {d : Nat} {t : Tok} {l : L} (hb : beginsS t = true) (hk : t.kind = 6) (hs : ¬ t.s = [91]) : objS (d + 1) t l = match dictS (objS d) (l.length + 1) l [] with
    | .bad e => .bad e
    | .good (ps, r) => .good (mkDict ps, r) := by
  rw [objS, if_pos hb, if_neg (by omega), if_neg (by omega), if_neg (by omega), if_neg (by omega), if_neg (by omega), if_neg hs]
  rfl
theorem deep_law : ∀ (bs : List Bool) (rest : L), stopL rest → ∃ t r, nextS (hdL bs ++ 32 :: 55 :: 32 :: (tlL bs ++ rest)) = .good (t, r) ∧ beginsS t = true ∧ (t.kind == 6 && t.s == [93]) = false ∧
    (∀ d, bs.length < d → ∃ r', objS d t r = .good (nestO bs, r') ∧ nextS r' = nextS rest ∧ (nextT r').2 = (nextT rest).2) ∧ (∀ d, d ≤ bs.length → objS d t r = .bad 7)
  | [], rest, hst => by
    refine ⟨⟨1, 1, 7, []⟩, 32 :: rest, rfl, rfl, rfl, fun d hd => ?_, fun d hd => ?_⟩
    · obtain ⟨d, rfl⟩ : ∃ e, d = e + 1 := ⟨d - 1, by simp at hd; omega⟩
      have hr : refS ⟨1, 1, 7, []⟩ (32 :: rest) = none := by
        rcases hst with rfl | ⟨r', rfl⟩ | ⟨r', rfl⟩ <;> rfl
      refine ⟨32 :: rest, ?_, ?_, ?_⟩
      · rw [objS_int rfl rfl hr]; rfl
      · rcases hst with rfl | ⟨r', rfl⟩ | ⟨r', rfl⟩ <;> rfl
      · rcases hst with rfl | ⟨r', rfl⟩ | ⟨r', rfl⟩ <;> rfl
    · have : d = 0 := by simp at hd; exact hd
      subst this; rfl
  | true :: bs, rest, hst => by
    obtain ⟨t1, r1, h1, h2, h3, h4, h5⟩ := deep_law bs (93 :: rest) (.inr (.inl ⟨rest, rfl⟩))
    have e : hdL (true :: bs) ++ 32 :: 55 :: 32 :: (tlL (true :: bs) ++ rest) = 91 :: (hdL bs ++ 32 :: 55 :: 32 :: (tlL bs ++ 93 :: rest)) := by simp [hdL, tlL, opn, cls]
    rw [e]
    obtain ⟨l, hl⟩ : ∃ l, hdL bs ++ 32 :: 55 :: 32 :: (tlL bs ++ 93 :: rest) = l := ⟨_, rfl⟩
    rw [hl] at h1
    rw [hl]
    have hend : nextS (93 :: rest) = .good (⟨6, 1, 0, [93]⟩, rest) := rfl
    refine ⟨⟨6, 1, 0, [91]⟩, l, rfl, rfl, rfl, fun d hd => ?_, fun d hd => ?_⟩
    · obtain ⟨d, rfl⟩ : ∃ e, d = e + 1 := ⟨d - 1, by simp at hd; omega⟩
      obtain ⟨r', g1, g2, _⟩ := h4 d (by simp at hd; omega)
      obtain ⟨f, hf⟩ : ∃ f, l.length = f + 1 := ⟨l.length - 1, by have := (nextS_shorter h1).1; omega⟩
      refine ⟨rest, ?_, rfl, rfl⟩
      rw [objS_arr rfl rfl rfl]
      rw [arrS_more h1 h3 (by simp) g1, hf, arrS_end (g2.trans hend) rfl]
      rfl
    · cases d with
      | zero => rfl
      | succ d =>
        have g := h5 d (by simp at hd; omega)
        rw [objS_arr rfl rfl rfl]
        rw [arrS_fbad h1 h3 (by simp) g]
  | false :: bs, rest, hst => by
    obtain ⟨t1, r1, h1, h2, h3, h4, h5⟩ := deep_law bs (62 :: 62 :: rest) (.inr (.inr ⟨rest, rfl⟩))
    have e : hdL (false :: bs) ++ 32 :: 55 :: 32 :: (tlL (false :: bs) ++ rest) = 60 :: 60 :: 47 :: 75 :: (hdL bs ++ 32 :: 55 :: 32 :: (tlL bs ++ 62 :: 62 :: rest)) := by simp [hdL, tlL, opn, cls]
    rw [e]
    have hrn := regN_hd bs (55 :: 32 :: (tlL bs ++ 62 :: 62 :: rest))
    obtain ⟨l, hl⟩ : ∃ l, hdL bs ++ 32 :: 55 :: 32 :: (tlL bs ++ 62 :: 62 :: rest) = l := ⟨_, rfl⟩
    rw [hl] at h1 hrn
    rw [hl]
    have hnm := name_tok l hrn
    have hend : nextS (62 :: 62 :: rest) = .good (⟨6, 2, 0, [62, 62]⟩, rest) := rfl
    refine ⟨⟨6, 2, 0, [60, 60]⟩, 47 :: 75 :: l, rfl, rfl, rfl, fun d hd => ?_, fun d hd => ?_⟩
    · obtain ⟨d, rfl⟩ : ∃ e, d = e + 1 := ⟨d - 1, by simp at hd; omega⟩
      obtain ⟨r', g1, g2, _⟩ := h4 d (by simp at hd; omega)
      refine ⟨rest, ?_, rfl, rfl⟩
      rw [objS_dict rfl rfl (by decide)]
      rw [show (47 :: 75 :: l : L).length + 1 = (l.length + 1 + 1) + 1 from rfl, dictS_more hnm rfl rfl rfl (by simp) h1 g1, dictS_end (g2.trans hend) rfl]
      dsimp only
      rw [show ([] ++ [(([75] : L), nestO bs)]) = [([75], nestO bs)] from rfl, nestDict _ (nestO_kind bs)]
      rfl
    · cases d with
      | zero => rfl
      | succ d =>
        have g := h5 d (by simp at hd; omega)
        rw [objS_dict rfl rfl (by decide)]
        rw [show (47 :: 75 :: l : L).length + 1 = (l.length + 1 + 1) + 1 from rfl, dictS_fbad hnm rfl rfl rfl (by simp) h1 g]
theorem deep_whole (bs : List Bool) : wholeS (hdL bs ++ 32 :: 55 :: 32 :: tlL bs) = if bs.length < 24 then .good (nestO bs) else .bad 7 := by
  obtain ⟨t, r, h1, _, _, h4, h5⟩ := deep_law bs [] (.inl rfl)
  rw [List.append_nil] at h1
  unfold wholeS
  rw [readS_good h1]
  by_cases h : bs.length < 24
  · obtain ⟨r', g1, _, g3⟩ := h4 24 h
    rw [g1, if_pos h]
    dsimp only
    rw [g3]
    rfl
  · rw [h5 24 (by omega), if_neg h]
theorem deep_small (bs : List Bool) (h : bs.length < 24) : smallO 25 (nestO bs) := by
  obtain ⟨t, r, h1, _, _, h4, _⟩ := deep_law bs [] (.inl rfl)
  obtain ⟨r', g1, _, _⟩ := h4 24 h
  exact (readS_small ((readS_good h1).trans g1)).1
/-- How many levels an object has, at most d looked at. -/
def depthL : Nat → Ob → Nat
  | 0, _ => 0
  | d + 1, o => (o.kids.map (depthL d)).foldl max 0 + 1
theorem depth_nest : ∀ (bs : List Bool) (d : Nat), bs.length < d → depthL d (nestO bs) = bs.length + 1
  | [], d, h => by
    obtain ⟨d, rfl⟩ : ∃ e, d = e + 1 := ⟨d - 1, by simp at h; omega⟩
    rfl
  | b :: bs, d, h => by
    obtain ⟨d, rfl⟩ : ∃ e, d = e + 1 := ⟨d - 1, by simp at h; omega⟩
    have := depth_nest bs d (by simp at h; omega)
    cases b <;> simp [depthL, nestO, Ob.kids, this]
theorem foldl_max_le (l : List Nat) (a b : Nat) (ha : a ≤ b) (h : ∀ x ∈ l, x ≤ b) : l.foldl max a ≤ b := by
  induction l generalizing a with
  | nil => exact ha
  | cons x l ih =>
    rw [List.foldl_cons]
    exact ih _ (Nat.max_le.2 ⟨ha, h x (by simp)⟩) (fun y hy => h y (by simp [hy]))
theorem depthL_le : ∀ (d : Nat) (o : Ob), depthL d o ≤ d
  | 0, _ => by simp [depthL]
  | d + 1, o => by
    rw [depthL]
    have := foldl_max_le (o.kids.map (depthL d)) 0 d (Nat.zero_le _) (fun x hx => by obtain ⟨k, _, rfl⟩ := List.mem_map.1 hx; exact depthL_le d k)
    omega
def DepthC (S : Nat → Prop) (d : Nat) : Prop := ∀ (w : World) (cs : List Value) (o : Ob), ObjAt S d w cs o → smallO d o → (∀ b, S b → b < w.heap.size) →
  Calls Tryz.prog 21 #[.agg cs.toArray] w fun e w' => e = .returned (.int .i64 (depthL d o)) ∧ Below w.heap.size w w'
set_option maxHeartbeats 1000000 in
theorem depth_step (S : Nat → Prop) (d : Nat) (hd : d ≤ 1000) (IH : DepthC S d) : DepthC S (d + 1) := by
  intro w cs o hO hsm hS
  obtain ⟨p1, c1, p2, c2, rfl⟩ := hO.form2
  obtain ⟨kv, dv, hcs, hK, hR0⟩ := hO
  have hR : RowAt S d w (.slice p2 o.kids.length c2) o.kids := by
    simp [objCells] at hcs; rw [hcs.2]; exact hR0
  clear hR0 hcs hK
  obtain ⟨m1, m2, m3, m4, m5⟩ := hsm
  have HRW := Lib.hid (And.intro hR (And.intro m5 hS))
  obtain ⟨nk, hnk⟩ : ∃ nk, o.kids.length = nk := ⟨_, rfl⟩
  have HNK := Lib.hid hnk
  rw [hnk] at HRW m2
  unfold objCells
  rw [hnk]
  clear hR hS m1 m3 m4 m5 hnk
  go_enter Tryz.func21, Tryz.ntmps21
  go_wp2
  go_loopw [3, 9] (fun v i wr => ∃ k : Nat, k ≤ nk ∧ i = .int .i64 k ∧ v = .int .i64 (((o.kids.take k).map (depthL d)).foldl max 0 : Nat) ∧ Below w.heap.size w wr) (fun _ i _ => nk - (intOf i).toNat)
  case atStart => exact ⟨0, Nat.zero_le _, rfl, rfl, (by repeat' (first | (with_reducible exact Below.refl _ _) | (with_reducible refine Below.drew ?_) | (with_reducible refine belowDrewN ?_ _) | (with_reducible refine belowIter ?_ ?_ _ _) | (with_reducible refine Below.setCell ?_ ?_ _) | (with_reducible refine Below.alloc ?_ ?_ _) | (with_reducible refine Below.trans ?_ (Below.mono hb4 ?_)) | (with_reducible refine Below.trans ?_ (Below.mono hb3 ?_)) | (with_reducible refine Below.trans ?_ (Below.mono hb2 ?_)) | (with_reducible refine Below.trans ?_ (Below.mono hb1 ?_)) | (with_reducible refine Below.trans ?_ (Below.mono hbr ?_)) | (with_reducible refine Below.trans ?_ (Below.mono hb ?_)) | (simp; done) | (simp; omega) | omega))⟩
  case round =>
    obtain ⟨k, hk, rfl, rfl, hb⟩ := hrel
    obtain ⟨M, hM⟩ : ∃ M, ((o.kids.take k).map (depthL d)).foldl max 0 = M := ⟨_, rfl⟩
    have hMd : M ≤ d := by rw [← hM]; exact foldl_max_le _ _ _ (Nat.zero_le _) (fun x hx => by obtain ⟨u, _, rfl⟩ := List.mem_map.1 hx; exact depthL_le d u)
    rw [hM]
    have HM := Lib.hid hM
    clear hM
    by_cases hlt : k < nk
    · have hRw : RowAt S d wr (.slice p2 nk c2) o.kids := HRW.out.1.kept (fun b h => hb.block b (HRW.out.2.2 b h))
      obtain ⟨b, off, rfl⟩ : ∃ b off, p2 = some ⟨b, off, none⟩ := by
        rcases hRw with ⟨e, _⟩ | ⟨b, off, c, e, _⟩
        · have := HNK.out; rw [e] at this; simp at this; omega
        · cases e; exact ⟨_, _, rfl⟩
      obtain ⟨x, p3, n3, e3, p4, n4, e4, hx, hxm, s1, O1, f0, f1, f2, f3, f4, f5⟩ := row_kid hRw HNK.out k hlt
      have hS2 : ∀ b, S b → b < wr.heap.size := fun b h => Nat.lt_of_lt_of_le (HRW.out.2.2 b h) hb.size
      have HI := Lib.hid (fun (W : World) (hW : Below wr.heap.size wr W) => IH W _ x (O1.kept (fun b h => hW.block b (hS2 b h)) d) (HRW.out.2.1 x hxm) (fun b h => Nat.lt_of_lt_of_le (hS2 b h) hW.size))
      have htk : o.kids.take (k + 1) = o.kids.take k ++ [x] := by
        have hk' : k < o.kids.length := by rw [HNK.out]; exact hlt
        rw [List.take_succ_eq_append_getElem hk', ← hx]; simp [List.getD, hk']
      have HT := Lib.hid (show ((o.kids.take (k + 1)).map (depthL d)).foldl max 0 = max M (depthL d x) by rw [htk, List.map_append, List.foldl_append, HM.out]; rfl)
      unfold objCells at HI
      have L1 := hS2 b s1
      have hszr := hb.size
      have c0 : wr.cell? ⟨w.heap.size, 5, none⟩ = wr.cell? ⟨w.heap.size, 5, none⟩ := rfl
      clear hRw hx hxm O1 hS2 htk c0
      go_wp2_with fail
      refine (HI.out _ (by repeat' (first | (with_reducible exact Below.refl _ _) | (with_reducible refine Below.drew ?_) | (with_reducible refine belowDrewN ?_ _) | (with_reducible refine belowIter ?_ ?_ _ _) | (with_reducible refine Below.setCell ?_ ?_ _) | (with_reducible refine Below.alloc ?_ ?_ _) | (with_reducible refine Below.trans ?_ (Below.mono hb4 ?_)) | (with_reducible refine Below.trans ?_ (Below.mono hb3 ?_)) | (with_reducible refine Below.trans ?_ (Below.mono hb2 ?_)) | (with_reducible refine Below.trans ?_ (Below.mono hb1 ?_)) | (with_reducible refine Below.trans ?_ (Below.mono hbr ?_)) | (with_reducible refine Below.trans ?_ (Below.mono hb ?_)) | (simp; done) | (simp; omega) | omega))).mono ?_
      rintro e w4 ⟨rfl, hb4⟩
      go_wp2
      go_roundw
      case rel => exact ⟨k + 1, by omega, by go_num, by rw [HT.out]; go_num, (by repeat' (first | (with_reducible exact Below.refl _ _) | (with_reducible refine Below.drew ?_) | (with_reducible refine belowDrewN ?_ _) | (with_reducible refine belowIter ?_ ?_ _ _) | (with_reducible refine Below.setCell ?_ ?_ _) | (with_reducible refine Below.alloc ?_ ?_ _) | (with_reducible refine Below.trans ?_ (Below.mono hb4 ?_)) | (with_reducible refine Below.trans ?_ (Below.mono hb3 ?_)) | (with_reducible refine Below.trans ?_ (Below.mono hb2 ?_)) | (with_reducible refine Below.trans ?_ (Below.mono hb1 ?_)) | (with_reducible refine Below.trans ?_ (Below.mono hbr ?_)) | (with_reducible refine Below.trans ?_ (Below.mono hb ?_)) | (simp; done) | (simp; omega) | omega))⟩
      case measure => simp [intOf]; omega
    · have HE := Lib.hid (show depthL (d + 1) o = M + 1 by
        have hkn : k = nk := by omega
        rw [depthL, ← HM.out, List.take_of_length_le (by rw [HNK.out]; omega)])
      go_wp2
      go_ret
      exact ⟨ret_int (by rw [HE.out]; omega), (by repeat' (first | (with_reducible exact Below.refl _ _) | (with_reducible refine Below.drew ?_) | (with_reducible refine belowDrewN ?_ _) | (with_reducible refine belowIter ?_ ?_ _ _) | (with_reducible refine Below.setCell ?_ ?_ _) | (with_reducible refine Below.alloc ?_ ?_ _) | (with_reducible refine Below.trans ?_ (Below.mono hb4 ?_)) | (with_reducible refine Below.trans ?_ (Below.mono hb3 ?_)) | (with_reducible refine Below.trans ?_ (Below.mono hb2 ?_)) | (with_reducible refine Below.trans ?_ (Below.mono hb1 ?_)) | (with_reducible refine Below.trans ?_ (Below.mono hbr ?_)) | (with_reducible refine Below.trans ?_ (Below.mono hb ?_)) | (simp; done) | (simp; omega) | omega))⟩
theorem depth_in (S : Nat → Prop) : ∀ d, d ≤ 1000 → DepthC S d
  | 0, _ => fun _ _ _ h => h.elim
  | d + 1, h => depth_step S d (by omega) (depth_in S d (by omega))
theorem cat_mk (a b : L) : (ByteArray.mk a.toArray) ++ (ByteArray.mk b.toArray) = ByteArray.mk (a ++ b).toArray := by
  apply ByteArray.ext
  simp
theorem hdL_len (bs : List Bool) : (hdL bs).length ≤ 4 * bs.length := by
  induction bs with
  | nil => simp [hdL]
  | cons b bs ih => cases b <;> simp [hdL, opn] <;> omega
theorem tlL_len (bs : List Bool) : (tlL bs).length ≤ 2 * bs.length := by
  induction bs with
  | nil => simp [tlL]
  | cons b bs ih => cases b <;> simp [tlL, cls] <;> omega
theorem deep_text (bs : List Bool) : ((ByteArray.mk (hdL bs).toArray ++ ByteArray.mk #[32, 55, 32]) ++ ByteArray.mk (tlL bs).toArray) = ByteArray.mk (hdL bs ++ 32 :: 55 :: 32 :: tlL bs).toArray := by
  have h1 := cat_mk (hdL bs) [32, 55, 32]
  have h2 := cat_mk (hdL bs ++ [32, 55, 32]) (tlL bs)
  rw [show ByteArray.mk #[32, 55, 32] = ByteArray.mk ([32, 55, 32] : L).toArray from rfl, h1, h2, List.append_assoc]
  rfl
theorem whole_deep (bs : List Bool) (R : Res Ob) (hR : (if bs.length < 24 then Res.good (nestO bs) else Res.bad 7) = R) (hl : bs.length ≤ 40) (m : Int) (w : World) (hm : MaxW w m) :
    Calls Tryz.prog 11 #[.string ((ByteArray.mk (hdL bs).toArray ++ ByteArray.mk #[32, 55, 32]) ++ ByteArray.mk (tlL bs).toArray)] w (WholePost w R) := by
  have h1 := hdL_len bs
  have h2 := tlL_len bs
  have := Whole_in ⟨(hdL bs ++ 32 :: 55 :: 32 :: tlL bs).toArray⟩ (by show (hdL bs ++ 32 :: 55 :: 32 :: tlL bs).length ≤ _; simp; omega) m w hm
  rw [show (ByteArray.mk (hdL bs ++ 32 :: 55 :: 32 :: tlL bs).toArray).data.toList = hdL bs ++ 32 :: 55 :: 32 :: tlL bs from rfl, deep_whole, hR] at this
  rw [deep_text]
  exact this
theorem hd_true (bs : List Bool) : Value.string (ByteArray.mk (hdL bs).toArray ++ ByteArray.mk #[91]) = .string ⟨(hdL (bs ++ [true])).toArray⟩ := by
  rw [hdL_snoc, ← cat_mk]; rfl
theorem hd_false (bs : List Bool) : Value.string (ByteArray.mk (hdL bs).toArray ++ ByteArray.mk #[60, 60, 47, 75]) = .string ⟨(hdL (bs ++ [false])).toArray⟩ := by
  rw [hdL_snoc, ← cat_mk]; rfl
theorem tl_true (bs : List Bool) : Value.string (ByteArray.mk #[93] ++ ByteArray.mk (tlL bs).toArray) = .string ⟨(tlL (bs ++ [true])).toArray⟩ := by
  rw [tlL_snoc, ← cat_mk]; rfl
theorem tl_false (bs : List Bool) : Value.string (ByteArray.mk #[62, 62] ++ ByteArray.mk (tlL bs).toArray) = .string ⟨(tlL (bs ++ [false])).toArray⟩ := by
  rw [tlL_snoc, ← cat_mk]; rfl
end Go.Proofs.YtpadlepdgnlgnaaGreatDoor
