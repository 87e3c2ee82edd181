/- The walk of lex's literal strings. -/
import Derived.Test.YtpadlepdgnlgnaaGreatDoorStr
set_option linter.all false
namespace Go.Proofs.YtpadlepdgnlgnaaGreatDoor
open Go.RowKit Fo

/-- A strings.Builder of the call's own, in block B, that holds the bytes l. -/
def bldB (w : World) (B : Nat) (l : L) : Prop := Lib.IsBuilder 98 5 B B (Lib.byteCells l) w
theorem bldB_below {w w' : World} {B : Nat} {l : L} (h : bldB w B l) (hb : Below w.heap.size w w') : bldB w' B l := by
  have key : ∀ p, Lib.BuilderAt 98 5 B B p (Lib.byteCells l) w → Lib.BuilderAt 98 5 B B p (Lib.byteCells l) w' := by
    rintro p h
    have hlt := h.lt
    obtain ⟨h1, v, h2, h3, h4⟩ := h
    exact ⟨h1, v, by rw [hb.block B hlt]; exact h2, World.ownsRow.kept h3 (row := none) ⟨hb.os, hb.tape, hb.output, hb.size, fun k hk _ => hb.block k hk⟩ (Classical.em _), h4⟩
  rcases h with h | h
  · exact .inl (key _ h)
  · exact .inr (key _ h)
theorem bldB_fresh (w : World) : bldB (w.alloc (.cells #[.pointer none, .slice none 0 0] 98)) w.heap.size [] := Lib.fresh_isBuilder _ _ w
theorem bld_byte (B : Nat) (l : L) (n : Int) (h0 : 0 ≤ n) (h1 : n < 256) (w : World) (h : bldB w B l) (hl : l.length + 1 ≤ 140737488355328) (hB : B ≤ w.heap.size) :
    Calls Tryz.prog 83 #[.pointer (some ⟨B, 0, none⟩), .int .u8 n] w fun e w' => e = .returned .nilIface ∧ bldB w' B (l ++ [UInt8.ofNat n.toNat]) ∧ Below B w w' := by
  refine (Tryz.Builder_WriteByte B B _ _ w h (by rw [Lib.byteCells_length]; exact hl) hB).mono fun e w' ⟨g1, g2, g3⟩ => ⟨g1, .inr ?_, g3⟩
  rw [show Lib.byteCells (l ++ [UInt8.ofNat n.toNat]) = Lib.byteCells l ++ [.int .u8 n] by simp only [Lib.byteCells, List.map_append, List.map_cons, List.map_nil, u8_back n h0 h1]]
  exact g2
theorem bld_str (B : Nat) (l : L) (s : ByteArray) (w : World) (h : bldB w B l) (hl : l.length + s.size ≤ 140737488355328) (hB : B ≤ w.heap.size) :
    Calls Tryz.prog 85 #[.pointer (some ⟨B, 0, none⟩), .string s] w fun e w' => e = .returned (.tuple #[.int .i64 s.size, .nilIface]) ∧ bldB w' B (l ++ s.data.toList) ∧ Below B w w' := by
  refine (Tryz.Builder_WriteString B B _ _ w h (by rw [Lib.byteCells_length]; exact hl) hB).mono fun e w' ⟨h1, h2, h3⟩ => ⟨h1, .inr ?_, h3⟩
  simpa [Lib.byteCells, Lib.strCells] using h2
theorem bld_get (B : Nat) (l : L) (w : World) (h : bldB w B l) (hB : B ≤ w.heap.size) :
    Calls Tryz.prog 86 #[.pointer (some ⟨B, 0, none⟩)] w fun e w' => e = .returned (.string ⟨l.toArray⟩) ∧ Below B w w' :=
  Tryz.Builder_String_any B B l w h hB

theorem octN_le (k v n : Nat) (l : L) : n ≤ (octN k v n l).2 ∧ (octN k v n l).2 ≤ n + l.length := by
  induction k generalizing v n l with
  | zero => simp [octN]
  | succ k ih =>
    cases l with
    | nil => simp [octN]
    | cons c l =>
      simp only [octN]
      split
      · have := ih (8 * v + (c.toNat - 48)) (n + 1) l; simp; omega
      · simp
theorem esc_le (l : L) (h : l ≠ []) : 1 ≤ (esc l).2 ∧ (esc l).2 ≤ l.length ∧ (esc l).1.length ≤ 1 := by
  cases l with
  | nil => exact absurd rfl h
  | cons c l =>
    have h1 := lineN_pos c l
    have h2 := lineN_le (c :: l)
    have h3 := octN_le 3 0 0 (c :: l)
    rcases esc_cases c l with ⟨_, _, e⟩ | ⟨_, _, e⟩ | ⟨_, _, e⟩ | ⟨_, _, e⟩ | ⟨_, _, e⟩ | ⟨_, _, e⟩ | ⟨_, _, e⟩ <;> rw [e]
    all_goals first | (simp; done) | (simp only [List.length_nil]; omega) | skip
    unfold escO
    split
    · simp
    · simp only [List.length_cons, List.length_nil] at *; omega
set_option maxHeartbeats 1000000 in
theorem esc_in (s : ByteArray) (a p : Nat) (hp : p < s.size) (hs : s.size ≤ 140737488355327) (w : World) :
    Calls Tryz.prog 84 #[.agg #[.string s, .int .i64 a], .int .i64 p] w fun e w' => e = .returned (.tuple #[.string ⟨(esc (s.data.toList.drop p)).1.toArray⟩, .int .i64 (p + (esc (s.data.toList.drop p)).2 : Nat)]) ∧ Below w.heap.size w w' := by
  have hd := drop_get s p hp
  have hc := esc_cases s[p] (s.data.toList.drop (p + 1))
  rw [← hd] at hc
  rcases hc with ⟨_, h, e⟩ | ⟨_, h, e⟩ | ⟨_, h, e⟩ | ⟨_, h, e⟩ | ⟨_, h, e⟩ | ⟨h, h2, e⟩ | ⟨h, h2, e⟩ <;> rw [e]
  · exact esc_letter s a p hp hs 0 ([], 0) (by simp) h w
  · exact esc_letter s a p hp hs 1 ([], 0) (by simp) h w
  · exact esc_letter s a p hp hs 2 ([], 0) (by simp) h w
  · exact esc_letter s a p hp hs 3 ([], 0) (by simp) h w
  · exact esc_letter s a p hp hs 4 ([], 0) (by simp) h w
  · exact esc_eol s a p hp hs h h2 w
  · exact esc_oct s a p hp hs h h2 w

theorem textS_skip (acc : L) (n op : Nat) : ∀ (k : Nat) (l : L), k ≤ l.length → textS acc n op k l = textS acc (n + k) op 0 (l.drop k) := by
  intro k
  induction k generalizing n with
  | zero => intro l _; simp
  | succ k ih =>
    intro l hl
    cases l with
    | nil => simp at hl
    | cons c l => rw [textS, ih (n + 1) l (by simpa using hl), List.drop_succ_cons]; congr 1; omega
theorem textS_end {acc : L} {n op : Nat} : textS acc n op 0 [] = .bad 4 := by simp [textS]
theorem textS_eol {acc : L} {n op : Nat} {s : ByteArray} {k : Nat} (h : k < s.size) (he : eol s[k] = true) :
    textS acc n op 0 (s.data.toList.drop k) = textS (acc ++ [10]) (n + lineN (s.data.toList.drop k)) op 0 (s.data.toList.drop (k + lineN (s.data.toList.drop k))) := by
  have h1 := lineN_le (s.data.toList.drop k)
  rw [drop_get s k h] at *
  have h2 := lineN_pos s[k] (s.data.toList.drop (k + 1))
  obtain ⟨x, hx⟩ : ∃ x, lineN (s[k] :: s.data.toList.drop (k + 1)) = x := ⟨_, rfl⟩
  rw [hx] at h1 h2
  rw [textS, if_pos he, textS_skip _ _ _ _ _ (by rw [hx]; simp at h1 ⊢; omega), List.drop_drop, hx, show k + 1 + (x - 1) = k + x by omega, show n + 1 + (x - 1) = n + x by omega]
theorem textS_esc0 {acc : L} {n op : Nat} {s : ByteArray} {k : Nat} (h : k + 1 = s.size) (hc : s[k] = 92) : textS acc n op 0 (s.data.toList.drop k) = .bad 4 := by
  rw [drop_get s k (by omega), hc, List.drop_eq_nil_of_le (by simp; omega)]; simp [textS, eol]
theorem textS_esc {acc : L} {n op : Nat} {s : ByteArray} {k : Nat} (h : k + 1 < s.size) (hc : s[k] = 92) :
    textS acc n op 0 (s.data.toList.drop k) = textS (acc ++ (esc (s.data.toList.drop (k + 1))).1) (n + 1 + (esc (s.data.toList.drop (k + 1))).2) op 0 (s.data.toList.drop (k + 1 + (esc (s.data.toList.drop (k + 1))).2)) := by
  have hne : s.data.toList.drop (k + 1) ≠ [] := by rw [drop_get s _ h]; simp
  rw [drop_get s k (by omega), hc]
  have he : (eol 92) = false := by decide
  rw [textS]
  simp only [he, hne]
  simp only [Bool.false_eq_true, if_false, beq_self_eq_true, if_true]
  rw [textS_skip _ _ _ _ _ (esc_le _ hne).2.1, List.drop_drop]
theorem textS_open {acc : L} {n op : Nat} {s : ByteArray} {k : Nat} (h : k < s.size) (hc : s[k] = 40) : textS acc n op 0 (s.data.toList.drop k) = textS (acc ++ [s[k]]) (n + 1) (op + 1) 0 (s.data.toList.drop (k + 1)) := by
  rw [drop_get s k h, hc]; simp [textS, eol]
theorem textS_shut {acc : L} {n : Nat} {s : ByteArray} {k : Nat} (h : k < s.size) (hc : s[k] = 41) : textS acc n 1 0 (s.data.toList.drop k) = .good (acc, n + 1) := by
  rw [drop_get s k h, hc]; simp [textS, eol]
theorem textS_close {acc : L} {n op : Nat} {s : ByteArray} {k : Nat} (h : k < s.size) (hc : s[k] = 41) (ho : ¬ op = 1) : textS acc n op 0 (s.data.toList.drop k) = textS (acc ++ [s[k]]) (n + 1) (op - 1) 0 (s.data.toList.drop (k + 1)) := by
  rw [drop_get s k h, hc]; simp [textS, eol, ho]
theorem textS_plain {acc : L} {n op : Nat} {s : ByteArray} {k : Nat} (h : k < s.size) (he : eol s[k] = false) (h1 : ¬ s[k] = 92) (h2 : ¬ s[k] = 40) (h3 : ¬ s[k] = 41) : textS acc n op 0 (s.data.toList.drop k) = textS (acc ++ [s[k]]) (n + 1) op 0 (s.data.toList.drop (k + 1)) := by
  rw [drop_get s k h]; simp [textS, he, h1, h2, h3]

set_option maxRecDepth 100000 in
set_option maxHeartbeats 2000000 in
theorem text_in (s : ByteArray) (a : Nat) (ha : a < s.size) (hs : s.size ≤ 140737488355327) (w : World) :
    Calls Tryz.prog 52 #[.agg #[.string s, .int .i64 a]] w fun e w' => e = .returned (tokR a (textT (s.data.toList.drop (a + 1)))) ∧ Below w.heap.size w w' := by
  have hm : Hid (s.size ≤ maxLen) := by unfold maxLen; show _ ≤ _; omega
  unfold textT
  obtain ⟨T, hT⟩ : ∃ T, textS [] 0 1 0 (s.data.toList.drop (a + 1)) = T := ⟨_, rfl⟩
  rw [hT]
  have HT := Lib.hid hT; clear hT
  go_enter Tryz.func52, Tryz.ntmps52
  go_wp2
  have hbl0 : bldB (((w.alloc (.cells #[.string s, .int .i64 a] 73)).alloc (.cells #[.int .i64 0, .int .i64 0, .int .i64 0, .int .i64 0, .string ⟨#[]⟩] 52)).alloc (.cells #[.pointer none, .slice none 0 0] 98)) (w.heap.size + 2) [] := by
    have := bldB_fresh ((w.alloc (.cells #[.string s, .int .i64 a] 73)).alloc (.cells #[.int .i64 0, .int .i64 0, .int .i64 0, .int .i64 0, .string ⟨#[]⟩] 52))
    simpa using this
  obtain ⟨w1, hw1⟩ : ∃ w1, (((w.alloc (.cells #[.string s, .int .i64 a] 73)).alloc (.cells #[.int .i64 0, .int .i64 0, .int .i64 0, .int .i64 0, .string ⟨#[]⟩] 52)).alloc (.cells #[.pointer none, .slice none 0 0] 98)) = w1 := ⟨_, rfl⟩
  have hB1 : w.heap.size + 2 ≤ w1.heap.size := by rw [← hw1]; simp
  have hb : Below w.heap.size w w1 := by rw [← hw1]; exact (by repeat' (first | (with_reducible exact Below.refl _ _) | (with_reducible refine Below.drew ?_) | (with_reducible refine belowDrewN ?_ _) | (with_reducible refine belowIter ?_ ?_ _ _) | (with_reducible refine Below.setCell ?_ ?_ _) | (with_reducible refine Below.alloc ?_ ?_ _) | (with_reducible refine Below.trans ?_ (Below.mono hb4 ?_)) | (with_reducible refine Below.trans ?_ (Below.mono hb3 ?_)) | (with_reducible refine Below.trans ?_ (Below.mono hb2 ?_)) | (with_reducible refine Below.trans ?_ (Below.mono hb1 ?_)) | (with_reducible refine Below.trans ?_ (Below.mono hbr ?_)) | (with_reducible refine Below.trans ?_ (Below.mono hb ?_)) | (simp; done) | (simp; omega) | omega))
  have c0 : w1.cell? ⟨w.heap.size, 0, none⟩ = some (.string s) := by rw [← hw1]; simp [go_sem]
  have c1 : w1.cell? ⟨w.heap.size, 1, none⟩ = some (.int .i64 a) := by rw [← hw1]; simp [go_sem]
  have d0 : w1.cell? ⟨w.heap.size + 1, 0, none⟩ = some (.int .i64 0) := by rw [← hw1]; simp [go_sem]
  have d1 : w1.cell? ⟨w.heap.size + 1, 1, none⟩ = some (.int .i64 0) := by rw [← hw1]; simp [go_sem]
  have d2 : w1.cell? ⟨w.heap.size + 1, 2, none⟩ = some (.int .i64 0) := by rw [← hw1]; simp [go_sem]
  have d3 : w1.cell? ⟨w.heap.size + 1, 3, none⟩ = some (.int .i64 0) := by rw [← hw1]; simp [go_sem]
  have d4 : w1.cell? ⟨w.heap.size + 1, 4, none⟩ = some (.string ⟨#[]⟩) := by rw [← hw1]; simp [go_sem]
  have df : ∀ o, w1.frozen? ⟨w.heap.size + 1, o, none⟩ = false := fun o => by rw [← hw1]; simp [go_sem]
  rw [hw1] at hbl0
  rw [hw1]
  clear hw1
  go_loopw [5, 6] (fun op i wr => ∃ (k : Nat) (acc : L) (o : Nat), a + 1 ≤ k ∧ k ≤ s.size ∧ 1 ≤ o ∧ o ≤ k ∧ i = .int .i64 k ∧ op = .int .i64 o ∧ bldB wr (w.heap.size + 2) acc ∧ acc.length ≤ k ∧ Below (w.heap.size + 2) w1 wr ∧ Hid (textS acc (k - (a + 1)) o 0 (s.data.toList.drop k) = T)) (fun _ i _ => s.size - (intOf i).toNat)
  case atStart => exact ⟨a + 1, [], 1, by omega, by omega, by omega, by omega, by go_num, by go_num, hbl0, by simp, Below.refl _ _, by rw [Nat.sub_self]; exact HT⟩
  case round =>
    obtain ⟨k, acc, o, hk1, hk2, ho1, ho2, rfl, rfl, hbld, hacc, hbr, H⟩ := hrel
    have hBr : w.heap.size + 2 ≤ wr.heap.size := Nat.le_trans hB1 hbr.size
    obtain ⟨hcr, hfr⟩ := bcellB hbr
    clear HT
    by_cases hlt : k < s.size
    · cases he : eol s[k]
      · have HE := Lib.hid he
        have hn1 : k - (a + 1) + 1 = k + 1 - (a + 1) := by omega
        have hu := UInt8.toNat_lt s[k]
        by_cases h92 : s[k] = 92
        · have t1 : ((s[k].toNat : Int) == 92) = true := eq_yes (n := 92) (by decide) h92
          by_cases hend : k + 1 = s.size
          · have HX := Lib.hid (H.out.symm.trans (textS_esc0 hend h92))
            have t2 : ((k : Int) + 1 == (s.size : Int)) = true := by simp; omega
            clear H he h92 hend hn1
            go_wp2_with (first | (go_at_call 82; refine (end_no _ _ _ hlt hm.out HE.out _).mono ?_; rintro e w2 ⟨rfl, hb2⟩; replace hbld := bldB_below hbld hb2; have hb3 := hb2.mono hBr; replace hbr := hbr.trans hb3; clear hcr hfr hBr; have hBr := Nat.le_trans hB1 hbr.size; obtain ⟨hcr, hfr⟩ := bcellB hbr; clear hb2 hb3) | (go_at_call 47; refine (refused_in _ _).mono ?_; rintro e w3 ⟨rfl, hb3⟩; replace hb3 := hbr.trans (hb3.mono hBr); obtain ⟨hc3, hf3⟩ := bcellB hb3))
            refine bodyPost_ret (v := .tuple #[.agg #[.int .i64 0, .int .i64 0, .int .i64 0, .int .i64 0, .string ⟨#[]⟩], .int .i64 4]) (by simp [results, Tryz.results52, go_sem, hc3, hf3, d0, d1, d2, d3, d4, df]) rfl ⟨by rw [HX.out]; rfl, (by repeat' (first | (with_reducible exact Below.refl _ _) | (with_reducible refine Below.drew ?_) | (with_reducible refine belowDrewN ?_ _) | (with_reducible refine belowIter ?_ ?_ _ _) | (with_reducible refine Below.setCell ?_ ?_ _) | (with_reducible refine Below.alloc ?_ ?_ _) | (with_reducible refine Below.trans ?_ (Below.mono hb4 ?_)) | (with_reducible refine Below.trans ?_ (Below.mono hb3 ?_)) | (with_reducible refine Below.trans ?_ (Below.mono hb2 ?_)) | (with_reducible refine Below.trans ?_ (Below.mono hb1 ?_)) | (with_reducible refine Below.trans ?_ (Below.mono hbr ?_)) | (with_reducible refine Below.trans ?_ (Below.mono hb ?_)) | (simp; done) | (simp; omega) | omega))⟩
          · have hlt1 : k + 1 < s.size := by omega
            have t2 : ((k : Int) + 1 == (s.size : Int)) = false := by simp; omega
            have hX := H.out.symm.trans (textS_esc hlt1 h92)
            have hel := esc_le (s.data.toList.drop (k + 1)) (by rw [drop_get s _ hlt1]; simp)
            obtain ⟨⟨x, m⟩, hxm⟩ : ∃ x, esc (s.data.toList.drop (k + 1)) = x := ⟨_, rfl⟩
            have hesc := fun w => esc_in s a (k + 1) hlt1 hs w
            rw [hxm] at hX hel hesc
            simp only [List.length_drop, Array.length_toList] at hX hel hesc
            have hel2 : m ≤ s.size - (k + 1) := hel.2.1
            have hel1 := hel.1
            have hel3 := hel.2.2
            rw [show k - (a + 1) + 1 + m = k + 1 + m - (a + 1) by omega] at hX
            have HX := Lib.hid hX
            have HS := Lib.hid hesc
            clear H he h92 hend hX hxm hesc hel
            go_wp2_with (first | (go_at_call 82; refine (end_no _ _ _ hlt hm.out HE.out _).mono ?_; rintro e w2 ⟨rfl, hb2⟩; replace hbld := bldB_below hbld hb2; have hb3 := hb2.mono hBr; replace hbr := hbr.trans hb3; clear hcr hfr hBr; have hBr := Nat.le_trans hB1 hbr.size; obtain ⟨hcr, hfr⟩ := bcellB hbr; clear hb2 hb3) | (go_at_call 84; refine (HS.out _).mono ?_; rintro e w4 ⟨rfl, hb2⟩; replace hbld := bldB_below hbld hb2; have hb3 := hb2.mono hBr; replace hbr := hbr.trans hb3; clear hcr hfr hBr; have hBr := Nat.le_trans hB1 hbr.size; obtain ⟨hcr, hfr⟩ := bcellB hbr; clear hb2 hb3) | (go_at_call 85; refine (bld_str _ _ _ _ hbld (by simp [ByteArray.size]; omega) hBr).mono ?_; rintro e w3 ⟨rfl, hbld3, hb3⟩; replace hbld := hbld3; replace hbr := hbr.trans hb3; clear hcr hfr hBr; have hBr := Nat.le_trans hB1 hbr.size; obtain ⟨hcr, hfr⟩ := bcellB hbr; clear hbld3 hb3))
            go_roundw
            case rel => exact ⟨k + 1 + m, acc ++ x, o, by omega, by omega, by omega, by omega, by go_num, rfl, by simpa using hbld, by simp; omega, hbr, HX.out.symm⟩
            case measure => simp [intOf]; omega
        · have t1 : ((s[k].toNat : Int) == 92) = false := eq_no (n := 92) (by decide) h92
          by_cases h40 : s[k] = 40
          · have t2 : ((s[k].toNat : Int) == 40) = true := eq_yes (n := 40) (by decide) h40
            have t4 : ((o : Int) + 1 == 0) = false := by simp; omega
            have HX := Lib.hid (H.out.symm.trans ((textS_open hlt h40).trans (by rw [hn1])))
            clear H he h92 h40 hn1
            go_wp2_with (first | (go_at_call 82; refine (end_no _ _ _ hlt hm.out HE.out _).mono ?_; rintro e w2 ⟨rfl, hb2⟩; replace hbld := bldB_below hbld hb2; have hb3 := hb2.mono hBr; replace hbr := hbr.trans hb3; clear hcr hfr hBr; have hBr := Nat.le_trans hB1 hbr.size; obtain ⟨hcr, hfr⟩ := bcellB hbr; clear hb2 hb3) | (go_at_call 83; refine (bld_byte _ _ _ (by omega) (by omega) _ hbld (by omega) hBr).mono ?_; rintro e w3 ⟨rfl, hbld3, hb3⟩; replace hbld := hbld3; replace hbr := hbr.trans hb3; clear hcr hfr hBr; have hBr := Nat.le_trans hB1 hbr.size; obtain ⟨hcr, hfr⟩ := bcellB hbr; clear hbld3 hb3))
            go_roundw
            case rel => exact ⟨k + 1, acc ++ [s[k]], o + 1, by omega, by omega, by omega, by omega, by go_num, by go_num, by simpa using hbld, by simp; omega, hbr, HX.out.symm⟩
            case measure => simp [intOf]; omega
          · have t2 : ((s[k].toNat : Int) == 40) = false := eq_no (n := 40) (by decide) h40
            by_cases h41 : s[k] = 41
            · have t3 : ((s[k].toNat : Int) == 41) = true := eq_yes (n := 41) (by decide) h41
              by_cases h1 : o = 1
              · subst h1
                have HX := Lib.hid (H.out.symm.trans (textS_shut hlt h41))
                clear H he h92 h40 h41 hn1
                go_wp2_with (go_at_call 82; refine (end_no _ _ _ hlt hm.out HE.out _).mono ?_; rintro e w2 ⟨rfl, hb2⟩; replace hbld := bldB_below hbld hb2; have hb3 := hb2.mono hBr; replace hbr := hbr.trans hb3; clear hcr hfr hBr; have hBr := Nat.le_trans hB1 hbr.size; obtain ⟨hcr, hfr⟩ := bcellB hbr; clear hb2 hb3)
                have hbld2 : bldB w2.drew (w.heap.size + 2) acc := hbld
                have hbr2 : Below (w.heap.size + 2) w1 w2.drew := hbr.drew
                have hBr2 : w.heap.size + 2 ≤ w2.drew.heap.size := hBr
                by_cases h127 : acc.length ≤ 32767
                · go_region_with (first | (go_at_call 86; refine (bld_get _ _ _ hbld2 hBr2).mono ?_; rintro e w3 ⟨rfl, hb3⟩; replace hb3 := hbr2.trans hb3; have hB3 := Nat.le_trans hB1 hb3.size; obtain ⟨hc3, hf3⟩ := bcellB hb3) | (go_at_call 78; refine (told_in s a 3 _ _ 32767 (by unfold maxLen; simp [ByteArray.size]; omega) _ (by simpa [ByteArray.size] using h127)).mono ?_; rintro e w4 ⟨rfl, hb4⟩; replace hb4 := hb3.trans (hb4.mono hB3); obtain ⟨hc4, hf4⟩ := bcellB hb4))
                  all_goals go_wp2
                  all_goals refine bodyPost_ret (v := .tuple #[.agg #[.int .i64 3, .int .i64 a, .int .i64 (k + 1), .int .i64 0, .string ⟨acc.toArray⟩], .int .i64 0]) (by simp [results, Tryz.results52, go_sem, hc4, hf4, d0, d1, d2, d3, d4, df, show IntKind.i64.wrap ((k : Int) + 1) = (k : Int) + 1 from IntWalk.i64_in _ ⟨by omega, by omega⟩]) rfl ⟨?_, (by repeat' (first | (with_reducible exact Below.refl _ _) | (with_reducible refine Below.drew ?_) | (with_reducible refine belowDrewN ?_ _) | (with_reducible refine belowIter ?_ ?_ _ _) | (with_reducible refine Below.setCell ?_ ?_ _) | (with_reducible refine Below.alloc ?_ ?_ _) | (with_reducible refine Below.trans ?_ (Below.mono hb4 ?_)) | (with_reducible refine Below.trans ?_ (Below.mono hb3 ?_)) | (with_reducible refine Below.trans ?_ (Below.mono hb2 ?_)) | (with_reducible refine Below.trans ?_ (Below.mono hb1 ?_)) | (with_reducible refine Below.trans ?_ (Below.mono hbr ?_)) | (with_reducible refine Below.trans ?_ (Below.mono hb ?_)) | (simp; done) | (simp; omega) | omega))⟩
                  all_goals
                    rw [HX.out]; simp only [strOf, told, if_neg (show ¬ 32767 < acc.length by omega), tokR]
                    congr; omega
                · go_region_with (first | (go_at_call 86; refine (bld_get _ _ _ hbld2 hBr2).mono ?_; rintro e w3 ⟨rfl, hb3⟩; replace hb3 := hbr2.trans hb3; have hB3 := Nat.le_trans hB1 hb3.size; obtain ⟨hc3, hf3⟩ := bcellB hb3) | (go_at_call 78; refine (told_long s a 3 _ _ 32767 (by unfold maxLen; simp [ByteArray.size]; omega) _ (by simp [ByteArray.size]; omega)).mono ?_; rintro e w4 ⟨rfl, hb4⟩; replace hb4 := hb3.trans (hb4.mono hB3); obtain ⟨hc4, hf4⟩ := bcellB hb4))
                  all_goals go_wp2
                  all_goals refine bodyPost_ret (v := .tuple #[.agg #[.int .i64 0, .int .i64 0, .int .i64 0, .int .i64 0, .string ⟨#[]⟩], .int .i64 5]) (by simp [results, Tryz.results52, go_sem, hc4, hf4, d0, d1, d2, d3, d4, df]) rfl ⟨?_, (by repeat' (first | (with_reducible exact Below.refl _ _) | (with_reducible refine Below.drew ?_) | (with_reducible refine belowDrewN ?_ _) | (with_reducible refine belowIter ?_ ?_ _ _) | (with_reducible refine Below.setCell ?_ ?_ _) | (with_reducible refine Below.alloc ?_ ?_ _) | (with_reducible refine Below.trans ?_ (Below.mono hb4 ?_)) | (with_reducible refine Below.trans ?_ (Below.mono hb3 ?_)) | (with_reducible refine Below.trans ?_ (Below.mono hb2 ?_)) | (with_reducible refine Below.trans ?_ (Below.mono hb1 ?_)) | (with_reducible refine Below.trans ?_ (Below.mono hbr ?_)) | (with_reducible refine Below.trans ?_ (Below.mono hb ?_)) | (simp; done) | (simp; omega) | omega))⟩
                  all_goals
                    rw [HX.out]; simp only [strOf, told, if_pos (show 32767 < acc.length by omega), tokR]
              · have t4 : ((o : Int) - 1 == 0) = false := by simp; omega
                have HX := Lib.hid (H.out.symm.trans ((textS_close hlt h41 h1).trans (by rw [hn1])))
                clear H he h92 h40 h41 hn1
                go_wp2_with (first | (go_at_call 82; refine (end_no _ _ _ hlt hm.out HE.out _).mono ?_; rintro e w2 ⟨rfl, hb2⟩; replace hbld := bldB_below hbld hb2; have hb3 := hb2.mono hBr; replace hbr := hbr.trans hb3; clear hcr hfr hBr; have hBr := Nat.le_trans hB1 hbr.size; obtain ⟨hcr, hfr⟩ := bcellB hbr; clear hb2 hb3) | (go_at_call 83; refine (bld_byte _ _ _ (by omega) (by omega) _ hbld (by omega) hBr).mono ?_; rintro e w3 ⟨rfl, hbld3, hb3⟩; replace hbld := hbld3; replace hbr := hbr.trans hb3; clear hcr hfr hBr; have hBr := Nat.le_trans hB1 hbr.size; obtain ⟨hcr, hfr⟩ := bcellB hbr; clear hbld3 hb3))
                go_roundw
                case rel => exact ⟨k + 1, acc ++ [s[k]], o - 1, by omega, by omega, by omega, by omega, by go_num, by congr 1; omega, by simpa using hbld, by simp; omega, hbr, HX.out.symm⟩
                case measure => simp [intOf]; omega
            · have t3 : ((s[k].toNat : Int) == 41) = false := eq_no (n := 41) (by decide) h41
              have t4 : ((o : Int) == 0) = false := by simp; omega
              have HX := Lib.hid (H.out.symm.trans ((textS_plain hlt he h92 h40 h41).trans (by rw [hn1])))
              clear H he h92 h40 h41 hn1
              go_wp2_with (first | (go_at_call 82; refine (end_no _ _ _ hlt hm.out HE.out _).mono ?_; rintro e w2 ⟨rfl, hb2⟩; replace hbld := bldB_below hbld hb2; have hb3 := hb2.mono hBr; replace hbr := hbr.trans hb3; clear hcr hfr hBr; have hBr := Nat.le_trans hB1 hbr.size; obtain ⟨hcr, hfr⟩ := bcellB hbr; clear hb2 hb3) | (go_at_call 83; refine (bld_byte _ _ _ (by omega) (by omega) _ hbld (by omega) hBr).mono ?_; rintro e w3 ⟨rfl, hbld3, hb3⟩; replace hbld := hbld3; replace hbr := hbr.trans hb3; clear hcr hfr hBr; have hBr := Nat.le_trans hB1 hbr.size; obtain ⟨hcr, hfr⟩ := bcellB hbr; clear hbld3 hb3))
              go_roundw
              case rel => exact ⟨k + 1, acc ++ [s[k]], o, by omega, by omega, by omega, by omega, by go_num, rfl, by simpa using hbld, by simp; omega, hbr, HX.out.symm⟩
              case measure => simp [intOf]; omega
      · have HE := Lib.hid he
        have hX := H.out.symm.trans (textS_eol hlt he)
        have hl1 := lineN_le (s.data.toList.drop k)
        have hl2 := lineN_pos s[k] (s.data.toList.drop (k + 1))
        rw [← drop_get s k hlt] at hl2
        simp only [List.length_drop, Array.length_toList] at hl1
        have hl3 : k + lineN (s.data.toList.drop k) ≤ s.size := by have : s.data.size = s.size := rfl; omega
        obtain ⟨m, hmm⟩ : ∃ m, lineN (s.data.toList.drop k) = m := ⟨_, rfl⟩
        have hend := fun w => end_yes s a k hlt hm.out he w
        rw [hmm] at hX hl2 hl3 hend
        rw [show k - (a + 1) + m = k + m - (a + 1) by omega] at hX
        have HX := Lib.hid hX
        have HS := Lib.hid hend
        clear H he hX hl1 hmm hend
        go_wp2_with (first | (go_at_call 82; refine (HS.out _).mono ?_; rintro e w2 ⟨rfl, hb2⟩; replace hbld := bldB_below hbld hb2; have hb3 := hb2.mono hBr; replace hbr := hbr.trans hb3; clear hcr hfr hBr; have hBr := Nat.le_trans hB1 hbr.size; obtain ⟨hcr, hfr⟩ := bcellB hbr; clear hb2 hb3) | (go_at_call 83; refine (bld_byte _ _ _ (by omega) (by omega) _ hbld (by omega) hBr).mono ?_; rintro e w3 ⟨rfl, hbld3, hb3⟩; replace hbld := hbld3; replace hbr := hbr.trans hb3; clear hcr hfr hBr; have hBr := Nat.le_trans hB1 hbr.size; obtain ⟨hcr, hfr⟩ := bcellB hbr; clear hbld3 hb3))
        go_roundw
        case rel => exact ⟨k + m, acc ++ [10], o, by omega, by omega, by omega, by omega, by go_num, rfl, by simpa using hbld, by simp; omega, hbr, HX.out.symm⟩
        case measure => simp [intOf]; omega
    · have HX := Lib.hid (show T = .bad 4 by have := H.out; rw [List.drop_eq_nil_of_le (by simp; omega), textS_end] at this; exact this.symm)
      clear H
      go_wp2_with (go_at_call 47; refine (refused_in _ _).mono ?_; rintro e w3 ⟨rfl, hb3⟩; replace hb3 := hbr.trans (hb3.mono hBr); obtain ⟨hc3, hf3⟩ := bcellB hb3)
      refine bodyPost_ret (v := .tuple #[.agg #[.int .i64 0, .int .i64 0, .int .i64 0, .int .i64 0, .string ⟨#[]⟩], .int .i64 4]) (by simp [results, Tryz.results52, go_sem, hc3, hf3, d0, d1, d2, d3, d4, df]) rfl ⟨by rw [HX.out]; rfl, (by repeat' (first | (with_reducible exact Below.refl _ _) | (with_reducible refine Below.drew ?_) | (with_reducible refine belowDrewN ?_ _) | (with_reducible refine belowIter ?_ ?_ _ _) | (with_reducible refine Below.setCell ?_ ?_ _) | (with_reducible refine Below.alloc ?_ ?_ _) | (with_reducible refine Below.trans ?_ (Below.mono hb4 ?_)) | (with_reducible refine Below.trans ?_ (Below.mono hb3 ?_)) | (with_reducible refine Below.trans ?_ (Below.mono hb2 ?_)) | (with_reducible refine Below.trans ?_ (Below.mono hb1 ?_)) | (with_reducible refine Below.trans ?_ (Below.mono hbr ?_)) | (with_reducible refine Below.trans ?_ (Below.mono hb ?_)) | (simp; done) | (simp; omega) | omega))⟩
end Go.Proofs.YtpadlepdgnlgnaaGreatDoor
