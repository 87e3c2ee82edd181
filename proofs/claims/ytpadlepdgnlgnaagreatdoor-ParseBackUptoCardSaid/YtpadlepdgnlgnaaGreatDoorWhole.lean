/- The walk of lex's integer reader. -/
import Derived.Test.YtpadlepdgnlgnaaGreatDoorWord
set_option linter.all false
namespace Go.Proofs.YtpadlepdgnlgnaaGreatDoor
open Go.RowKit Fo

theorem val_snoc (l : L) (c : UInt8) : val (l ++ [c]) = 10 * val l + (c.toNat - 48) := by simp [val, List.foldl_append]
theorem isInt_parts {l : L} (h : isInt l = true) : l.dropWhile sign = unsigned l ∧ (unsigned l).all isDig = true ∧ unsigned l ≠ [] ∧ l ≠ [] := by
  have hsd : ∀ c, isDig c = true → sign c = false := fun c h => by
    have := u8_all (fun c => !sign c || !isDig c) (by decide +kernel) c
    simp [h] at this; exact this
  unfold isInt allDig at h
  simp only [Bool.and_eq_true, Bool.not_eq_true', List.isEmpty_eq_false_iff] at h
  refine ⟨?_, h.2, h.1, ?_⟩
  · cases l with
    | nil => rfl
    | cons c l =>
      by_cases hc : sign c
      · simp only [unsigned, hc, if_true, List.dropWhile_cons] at *
        cases l with
        | nil => rfl
        | cons d l =>
          have := h.2
          simp only [List.all_cons, Bool.and_eq_true] at this
          simp [List.dropWhile_cons, hsd d this.1]
      · simp [unsigned, hc, List.dropWhile_cons]
  · rintro rfl; simp [unsigned] at h
def intR : Res Int → Value
  | .bad e => .tuple #[.int .i64 0, .int .i64 e]
  | .good n => .tuple #[.int .i64 n, .int .i64 0]
theorem take_snoc' (l : L) (k : Nat) (h : k < l.length) : l.take (k + 1) = l.take k ++ [l[k]] := by
  rw [List.take_succ_eq_append_getElem h]
theorem dig_bounds {c : UInt8} (h : isDig c = true) : 48 ≤ c.toNat ∧ c.toNat ≤ 57 := by
  unfold isDig at h; simpa [UInt8.le_iff_toNat_le] using h
set_option maxHeartbeats 1000000 in
theorem whole_in (s : ByteArray) (hs : s.size ≤ 140737488355327) (h : isInt s.data.toList = true) (w : World) :
    Calls Tryz.prog 88 #[.string s] w fun e w' => e = .returned (intR (wholeV s.data.toList)) ∧ Below w.heap.size w w' := by
  obtain ⟨h1, h2, h3, h4⟩ := isInt_parts h
  obtain ⟨d, hd⟩ : ∃ d, unsigned s.data.toList = d := ⟨_, rfl⟩
  rw [hd] at h1 h2 h3
  have hdl : d.length ≤ s.size := by
    rw [← h1]; exact (List.dropWhile_sublist sign (l := s.data.toList)).length_le
  have hs0 : 0 < s.size := List.length_pos_iff.2 h4
  have hsz : (ByteArray.mk d.toArray).size = d.length := by simp [ByteArray.size]
  obtain ⟨R, hR⟩ : ∃ R, wholeV s.data.toList = R := ⟨_, rfl⟩
  rw [hR]
  unfold wholeV at hR
  rw [hd] at hR
  have HR := Lib.hid hR
  have HD := Lib.hid h1
  have HS := Lib.hid hsz
  have hdig : ∀ k (hk : k < d.length), 48 ≤ d[k].toNat ∧ d[k].toNat ≤ 57 := fun k hk => dig_bounds (List.all_eq_true.1 h2 _ (List.getElem_mem hk))
  have HG := Lib.hid hdig
  have hmin : Hid (minus s.data.toList = (s[0] == 45)) := by
    unfold minus
    have := drop_get s 0 hs0
    rw [List.drop_zero] at this
    show _ = _
    rw [this]; simp
  clear hR hd h1 h2 h3 h4 h hsz hdig
  go_enter Tryz.func88, Tryz.ntmps88
  go_wp2_with (go_at_call 107; refine (trimL_as _ d HD.out _).mono ?_; rintro e w1 ⟨rfl, hb⟩; have hz1 := hb.size)
  go_loopw [4] (fun n wr => ∃ (k v : Nat), k ≤ d.length ∧ v ≤ 2147483648 ∧ n = .int .i64 v ∧ Hid (v = min (val (d.take k)) 2147483648) ∧ wr = w1.iter ⟨d.toArray⟩ k) (fun _ wr => d.length - wr.iterPos w1.heap.size)
  case atStart => exact ⟨0, 0, by omega, by omega, rfl, by show _ = _; simp [val], rfl⟩
  case round =>
    obtain ⟨k, v, hk, hv, rfl, HV, rfl⟩ := hrel
    by_cases hp : k < d.length
    · have hp2 : k < (ByteArray.mk d.toArray).size := by rw [HS.out]; exact hp
      have hg := HG.out k hp
      have hbk : (ByteArray.mk d.toArray)[k] = d[k] := rfl
      have hnx : ∀ ty, (Instr.next (.pointer (some ⟨w1.heap.size, 0, none⟩)) true ty).run Tryz.prog (w1.iter ⟨d.toArray⟩ k) = .ok (.tuple #[.bool true, .int .i64 k, .int .i32 d[k].toNat]) (w1.iter ⟨d.toArray⟩ (k + 1)) := fun ty => run_next_ascii w1 _ k ty hp2 (by rw [hbk]; omega)
      have HV2 := Lib.hid (show min (10 * v + (d[k].toNat - 48)) 2147483648 = min (val (d.take (k + 1))) 2147483648 by
        rw [take_snoc' d k hp, val_snoc, HV.out]; omega)
      clear hbk
      go_wp2
      go_roundw
      case rel => exact ⟨k + 1, min (10 * v + (d[k].toNat - 48)) 2147483648, by omega, by omega, by congr 1; omega, HV2.out, rfl⟩
      case measure => simp; omega
    · have hk2 : k = d.length := by omega
      subst hk2
      have hnx : ∀ ty, (Instr.next (.pointer (some ⟨w1.heap.size, 0, none⟩)) true ty).run Tryz.prog (w1.iter ⟨d.toArray⟩ d.length) = .ok (.tuple #[.bool false]) (w1.iter ⟨d.toArray⟩ d.length) := fun ty => run_next_end w1 _ _ ty (by rw [HS.out]; omega)
      have hV := HV.out
      rw [List.take_length] at hV
      clear HV
      by_cases hbig : 2147483647 < v
      · have HX := Lib.hid (show R = .bad 2 by rw [← HR.out, if_pos (by omega)])
        clear hV
        go_wp2
        go_ret2
        exact ⟨by rw [HX.out]; rfl, (by repeat' (first | (with_reducible exact Below.refl _ _) | (with_reducible refine Below.drew ?_) | (with_reducible refine belowDrewN ?_ _) | (with_reducible refine belowIter ?_ ?_ _ _) | (with_reducible refine Below.setCell ?_ ?_ _) | (with_reducible refine Below.alloc ?_ ?_ _) | (with_reducible refine Below.trans ?_ (Below.mono hb4 ?_)) | (with_reducible refine Below.trans ?_ (Below.mono hb3 ?_)) | (with_reducible refine Below.trans ?_ (Below.mono hb2 ?_)) | (with_reducible refine Below.trans ?_ (Below.mono hb1 ?_)) | (with_reducible refine Below.trans ?_ (Below.mono hbr ?_)) | (with_reducible refine Below.trans ?_ (Below.mono hb ?_)) | (simp; done) | (simp; omega) | omega))⟩
      · have hX := HR.out
        rw [if_neg (by omega), hmin.out] at hX
        have HV := Lib.hid (show val d = v by omega)
        clear hV
        by_cases h45 : s[0] = 45
        · have t1 : ((s[0].toNat : Int) == 45) = true := eq_yes (n := 45) (by decide) h45
          have HX := Lib.hid (show R = .good (-(v : Int)) by rw [← hX, h45, HV.out]; rfl)
          clear hX h45
          go_wp2
          go_ret2
          exact ⟨by rw [HX.out]; rfl, (by repeat' (first | (with_reducible exact Below.refl _ _) | (with_reducible refine Below.drew ?_) | (with_reducible refine belowDrewN ?_ _) | (with_reducible refine belowIter ?_ ?_ _ _) | (with_reducible refine Below.setCell ?_ ?_ _) | (with_reducible refine Below.alloc ?_ ?_ _) | (with_reducible refine Below.trans ?_ (Below.mono hb4 ?_)) | (with_reducible refine Below.trans ?_ (Below.mono hb3 ?_)) | (with_reducible refine Below.trans ?_ (Below.mono hb2 ?_)) | (with_reducible refine Below.trans ?_ (Below.mono hb1 ?_)) | (with_reducible refine Below.trans ?_ (Below.mono hbr ?_)) | (with_reducible refine Below.trans ?_ (Below.mono hb ?_)) | (simp; done) | (simp; omega) | omega))⟩
        · have t1 : ((s[0].toNat : Int) == 45) = false := eq_no (n := 45) (by decide) h45
          have HX := Lib.hid (show R = .good (v : Int) by rw [← hX, HV.out]; simp [h45])
          clear hX h45
          go_wp2
          go_ret2
          exact ⟨by rw [HX.out]; rfl, (by repeat' (first | (with_reducible exact Below.refl _ _) | (with_reducible refine Below.drew ?_) | (with_reducible refine belowDrewN ?_ _) | (with_reducible refine belowIter ?_ ?_ _ _) | (with_reducible refine Below.setCell ?_ ?_ _) | (with_reducible refine Below.alloc ?_ ?_ _) | (with_reducible refine Below.trans ?_ (Below.mono hb4 ?_)) | (with_reducible refine Below.trans ?_ (Below.mono hb3 ?_)) | (with_reducible refine Below.trans ?_ (Below.mono hb2 ?_)) | (with_reducible refine Below.trans ?_ (Below.mono hb1 ?_)) | (with_reducible refine Below.trans ?_ (Below.mono hbr ?_)) | (with_reducible refine Below.trans ?_ (Below.mono hb ?_)) | (simp; done) | (simp; omega) | omega))⟩
end Go.Proofs.YtpadlepdgnlgnaaGreatDoor
