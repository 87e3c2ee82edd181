/- The walk of whole.begin. -/
import Derived.Test.YtfgdhcemidlnfaaGreatDoorGPlB
import Derived.Test.YtfgdhcemidlnfaaGreatDoorGTb
import Derived.Test.YtfgdhcemidlnfaaGreatDoorBoD
import Derived.Test.YtfgdhcemidlnfaaGreatDoorGDo
import Derived.Test.YtfgdhcemidlnfaaGreatDoorGPl
set_option linter.all false
namespace Go.Proofs.YtfgdhcemidlnfaaGreatDoor
open Go.RowKit Fo Go.Maps

theorem fileB_other {w w' : World} {B fb mb : Nat} {l : L} (h : fileB w B fb mb l) (hm : mb < B) (ho : w'.os = w.os) (ht : w'.tape = w.tape) (hp : w'.output = w.output) (hz : w.heap.size ≤ w'.heap.size) (hk : ∀ k, k < w.heap.size → k ≠ mb → w'.heap[k]? = w.heap[k]?) : fileB w' B fb mb l := by
  have hlt := fileB_lt h
  obtain ⟨h0, p, v, h1, h2, h3, h4⟩ := h
  refine ⟨h0, p, v, h1, (hk fb hlt (by omega)).trans h2, ?_, h4⟩
  exact h3.kept (row := some mb) ⟨ho, ht, hp, hz, fun k hk' hne => hk k hk' (fun e => hne (by rw [e]))⟩ (Or.inr (fun e => by have := (h3.lt mb e).1; omega))
theorem fileB_map {w : World} {B fb mb : Nat} {l : L} (h : fileB w B fb mb l) : w.cell? ⟨fb, 2, none⟩ = some (.map (some mb)) := by
  obtain ⟨_, p, v, _, h2, _⟩ := h
  simp [World.cell?, h2]
theorem wf_num {c : Int} (h0 : 0 ≤ c) (h1 : c ≤ 1000000) : (Lit.int .i64 c).wf = true := by simp [Lit.wf, IntKind.min, IntKind.max, IntKind.bits, IntKind.signed]; omega
set_option maxRecDepth 100000 in
set_option maxHeartbeats 4000000 in
theorem begin_in (S : Nat → Prop) (d : Nat) (k1 n1 g1 : Int) (q1 : ByteArray) (a1 a2 a3 : Option Addr) (b1 c1 b2 c2 b3 c3 : Nat) (l : List It) (r : L) (ps : List Sl) (w : World) (hT : TabP w)
    (hI : ItemsAt S d w (.slice a1 b1 c1) l) (hl : l.length ≤ 1000000) (hsm : ∀ i ∈ l, smallO d i.ob) (hS : ∀ b, S b → b < w.heap.size) (hf : ∀ i ∈ l, Fit i) (hup : ItemsOk none l)
    (hp : partsW headW l = .good (r, ps)) (hr : r.length ≤ 140737488355328) :
    Calls Tryz.prog 46 #[.agg #[.slice a1 b1 c1, .int .i64 k1, .int .i64 n1, .int .i64 g1, .string q1, .slice a2 b2 c2, .slice a3 b3 c3]] w fun e w' =>
      e = .returned (.tuple #[.pointer (some ⟨w.heap.size + 2, 0, none⟩), .int .i64 0]) ∧ fileB w' (w.heap.size + 2) (w.heap.size + 2) (w.heap.size + 1) r ∧ MpS w' (w.heap.size + 1) l.length ps ∧ Below w.heap.size w w' := by
  have HHD := Lib.hid (fun W hW => head_in W hW)
  have HTW := Lib.hid hT
  have HPU := Lib.hid (parts_up hp hup)
  obtain ⟨n, hn⟩ : ∃ n, l.length = n := ⟨_, rfl⟩
  obtain ⟨p, cp, hv⟩ := hI.slice
  obtain ⟨rfl, rfl, rfl⟩ : a1 = p ∧ b1 = n ∧ c1 = cp := by rw [hn] at hv; cases hv; exact ⟨rfl, rfl, rfl⟩
  have HV := Lib.hid hI
  have HN := Lib.hid hn
  have HS := Lib.hid (And.intro hS (And.intro hsm hf))
  have HP0 := Lib.hid hp
  have HR := Lib.hid hr
  have hn1 : b1 ≤ 1000000 := by omega
  rw [hn]
  clear hT hI hl hsm hS hf hup hp hr hn hv
  have hmk : ∀ w, (Instr.makeMap 101 none).run Tryz.prog w = .ok (.map (some w.heap.size)) (w.alloc (.map #[] 0)) := fun _ => by kernel_rfl
  go_enter Tryz.func46, Tryz.ntmps46
  go_wp2_with fail
  obtain ⟨w0, hw0⟩ : ∃ w0, ((w.alloc (.cells #[.slice a1 b1 c1, .int .i64 k1, .int .i64 n1, .int .i64 g1, .string q1, .slice a2 b2 c2, .slice a3 b3 c3] 28)).alloc (.map #[] 0)).alloc
      (.cells #[.pointer none, .slice none 0 0, .map (some (w.heap.size + 1))] 103) = w0 := ⟨_, rfl⟩
  have hz0 : w0.heap.size = w.heap.size + 3 := by rw [← hw0]; simp
  have HD0 : w0.heap[w.heap.size]? = some (.cells #[.slice a1 b1 c1, .int .i64 k1, .int .i64 n1, .int .i64 g1, .string q1, .slice a2 b2 c2, .slice a3 b3 c3] 28 (0, 0)) := by
    rw [← hw0]
    exact (Below.heap_alloc _ _ _ (by simp; omega)).trans ((Below.heap_alloc _ _ _ (by simp)).trans (heap_new_at w _ _ rfl))
  have HM0 : MpS w0 (w.heap.size + 1) 0 [] := by
    have h := MpS.made (w.alloc (.cells #[.slice a1 b1 c1, .int .i64 k1, .int .i64 n1, .int .i64 g1, .string q1, .slice a2 b2 c2, .slice a3 b3 c3] 28))
    rw [World.size_alloc] at h
    rw [← hw0]
    exact h.kept (Below.heap_alloc _ _ _ (by simp))
  have HF0 : fileB w0 (w.heap.size + 2) (w.heap.size + 2) (w.heap.size + 1) [] := by
    refine ⟨Nat.le_refl _, _, _, .inl rfl, ?_, World.ownsRowF_nil _ _ _ _, by simp [Value.ownBlock]⟩
    rw [← hw0]
    exact heap_new_at _ _ _ (by simp)
  have hb0 : Below w.heap.size w w0 := by rw [← hw0]; exact (by repeat' (first | (with_reducible first | exact Below.refl _ _ | refine Below.drew ?_ | refine belowDrewN ?_ _ | refine belowIter ?_ ?_ _ _ | refine Below.setCell ?_ ?_ _ | refine Below.alloc ?_ ?_ _ | refine bT hb4 ?_ ?_ | refine bT hb3 ?_ ?_ | refine bT hb2 ?_ ?_ | refine bT hb1 ?_ ?_ | refine bT hbr ?_ ?_ | refine bT hb ?_ ?_) | (simp; done) | (simp; omega) | omega))
  rw [hw0]
  clear hw0
  refine (HHD.out _ (HTW.out.below hb0)).mono ?_
  rintro e w1 ⟨rfl, hb1⟩
  go_wp2_with fail
  refine (fstr_in (w.heap.size + 2) (w.heap.size + 2) (w.heap.size + 1) [] _ w1 (fileB_below HF0 hb1) (by decide) (by have := hb1.size; omega)).mono ?_
  rintro e w2 ⟨rfl, hf2, hb2, hk2⟩
  have HM2 : MpS w2 (w.heap.size + 1) 0 [] := (HM0.below hb1).kept (hb2.block _ (by omega))
  have hbw2 : Below w.heap.size w w2 := (hb0.trans (hb1.mono (by omega))).trans (hb2.mono (by omega))
  have hf2' : fileB w2 (w.heap.size + 2) (w.heap.size + 2) (w.heap.size + 1) headW := hf2
  have hd2 := (hb2.block w.heap.size (by omega)).trans ((hb1.block _ (by omega)).trans HD0)
  have s0 : w2.cell? ⟨w.heap.size, 0, none⟩ = some (.slice a1 b1 c1) := by simp [World.cell?, hd2]
  clear HM0 HF0 hb0 hb1 hb2 hk2 hf2 hd2 HD0
  go_wp2
  clear s0
  go_loopw [29] (fun i wr => ∃ (k : Nat) (acc : L) (ps1 ps2 : List Sl), k ≤ b1 ∧ i = .int .i64 k ∧ Below w.heap.size w wr ∧ w.heap.size + 3 ≤ wr.heap.size ∧ Hid (partsW acc (l.drop k) = .good (r, ps2)) ∧ Hid (ps1 ++ ps2 = ps) ∧ fileB wr (w.heap.size + 2) (w.heap.size + 2) (w.heap.size + 1) acc ∧ MpS wr (w.heap.size + 1) k ps1) (fun i _ => b1 - (intOf i).toNat)
  case atStart => exact ⟨0, headW, [], ps, Nat.zero_le _, rfl, hbw2, by have := fileB_lt hf2'; omega, Lib.hid HP0.out, Lib.hid rfl, hf2', HM2⟩
  case round =>
    obtain ⟨k, acc, ps1, ps2, hk, rfl, hbr, hzr, HP, HQ, HF, HM⟩ := hrel
    by_cases hlk : k < b1
    · have hvr : ItemsAt S d wr (.slice a1 b1 c1) l := HV.out.kept (fun b h => hbr.block b (HS.out.1 b h))
      obtain ⟨b, off, rfl⟩ := hvr.addr HN.out k hlk
      obtain ⟨i, y1, t1, x1, y2, t2, x2, hi, hsb, O1, e0, e1, e2, e3, e4, e5, e6, e7⟩ := item_kid hvr HN.out k hlk
      obtain ⟨t, ps3, ht, hrest, rfl⟩ := partsW_step HP.out hi
      have hfit := HS.out.2.2 i (List.mem_of_getElem? hi)
      have hg := (numsB_iff i).1 hfit.nums
      have HBT := Lib.hid (fun (W : World) (hW : Below wr.heap.size wr W) => btext_in S d i.num i.gen i.ob.kind i.ob.n i.ob.g i.ob.s y1 y2 t1 x1 t2 x2 i.ob W hg.1 hg.2.1 hg.2.2.1 hg.2.2.2 hfit.kind
        (O1.kept (fun b h => hW.block b (Nat.lt_of_lt_of_le (HS.out.1 b h) hbr.size)) d) (HS.out.2.1 i (List.mem_of_getElem? hi)) (fun b h => Nat.lt_of_lt_of_le (HS.out.1 b h) (Nat.le_trans hbr.size hW.size)) hfit.chk (HTW.out.below (hbr.trans (hW.mono hbr.size))) rfl (fun _ => Nat.le_trans hfit.bulk (by decide)) hfit.len rfl rfl rfl)
      have hblt : b < wr.heap.size := Nat.lt_of_lt_of_le (HS.out.1 b hsb) hbr.size
      have hbne : ¬ b = wr.heap.size := by omega
      have hacc : (acc ++ t).length ≤ 140737488355328 := Nat.le_trans (parts_mono hrest) HR.out
      rw [List.length_append] at hacc
      have HT2 := Lib.hid (And.intro ht hrest)
      have HFR := Lib.hid (find_fresh HQ.out HPU.out)
      have HG := Lib.hid hg
      clear hvr hi hsb O1 hfit hg ht hrest
      go_wp2_with fail
      refine (HBT.out _ (by repeat' (first | (with_reducible first | exact Below.refl _ _ | refine Below.drew ?_ | refine belowDrewN ?_ _ | refine belowIter ?_ ?_ _ _ | refine Below.setCell ?_ ?_ _ | refine Below.alloc ?_ ?_ _ | refine bT hb4 ?_ ?_ | refine bT hb3 ?_ ?_ | refine bT hb2 ?_ ?_ | refine bT hb1 ?_ ?_ | refine bT hbr ?_ ?_ | refine bT hb ?_ ?_) | (simp; done) | (simp; omega) | omega))).mono ?_
      rintro e w3 ⟨t', ht', rfl, hb3⟩
      obtain rfl : t' = t := by have h := ht'.symm.trans HT2.out.1; injection h
      have hz3 := hb3.size
      simp at hz3
      have X1 := (hb3.block _ (by simp)).trans (heap_new_at wr (.cells #[.int .i64 i.num, .int .i64 i.gen, .int .i64 i.ob.kind, .int .i64 i.ob.n, .int .i64 i.ob.g, .string ⟨i.ob.s.toArray⟩, .slice y1 t1 x1, .slice y2 t2 x2] 50) _ rfl)
      obtain ⟨z0, z1, z2, z3, z4, z5, z6, z7⟩ := eight_of X1
      have hbz3 : Below wr.heap.size wr w3 := ((Below.refl _ wr).alloc (Nat.le_refl _) (.cells #[.int .i64 i.num, .int .i64 i.gen, .int .i64 i.ob.kind, .int .i64 i.ob.n, .int .i64 i.ob.g, .string ⟨i.ob.s.toArray⟩, .slice y1 t1 x1, .slice y2 t2 x2] 50)).trans (hb3.mono (by simp))
      have HF3 := fileB_below HF hbz3
      have HM3 := HM.below hbz3
      have cm := fileB_map HF3
      have hbw3 : Below w.heap.size w w3 := hbr.trans (hbz3.mono hbr.size)
      clear hb3 X1 ht'
      have HF3d : fileB w3.drew (w.heap.size + 2) (w.heap.size + 2) (w.heap.size + 1) acc := HF3
      have cmd : w3.drew.cell? ⟨w.heap.size + 2, 2, none⟩ = some (.map (some (w.heap.size + 1))) := cm
      have HM3d : MpS w3.drew (w.heap.size + 1) k ps1 := HM3
      obtain ⟨D, hown, hD⟩ := HM3d
      have HPS := Lib.hid (hD.push ⟨i.num, 1, acc.length, i.gen⟩ HFR.out)
      obtain ⟨w6, hrun6, hown6, hg6⟩ := hown.update (int_keyed Tryz.underlying3) Tryz.underlying101 (by unfold maxLen; omega) (keyOf_int_mk Tryz.underlying3 (wf_num (c := i.num) (by have := HG.out; omega) (by have := HG.out; omega))) (slotR_slV ⟨i.num, 1, acc.length, i.gen⟩)
      simp only [slV] at hrun6
      have HM6 : MpS w6 (w.heap.size + 1) (k + 1) (ps1 ++ [⟨i.num, 1, acc.length, i.gen⟩]) := ⟨_, hown6, HPS.out⟩
      have HF6 := fileB_other HF3d (by omega) hg6.os hg6.tape hg6.output hg6.size (fun j hj hne => hg6.block j hj (fun e => hne (by cases e; rfl)))
      have hbw6 : Below w.heap.size w w6 := hbw3.drew.grown hg6 hbw3.drew.size (fun j hj => by cases hj; omega)
      have hz6 : w.heap.size + 3 ≤ w6.heap.size := by have := hg6.size; have h : w3.drew.heap.size = w3.heap.size := rfl; omega
      have m2 : w6.cell? ⟨w.heap.size + 1 + 1, 2, none⟩ = some (.map (some (w.heap.size + 1))) := fileB_map HF6
      have hz3d : wr.heap.size < w3.drew.heap.size := by have h : w3.drew.heap.size = w3.heap.size := rfl; omega
      have m0 : w6.cell? ⟨wr.heap.size, 0, none⟩ = some (.int .i64 i.num) := (World.cell?_of_block (a := ⟨wr.heap.size, 0, none⟩) (hg6.block _ hz3d (fun e => by simp at e; omega))).trans z0
      have m1 : w6.cell? ⟨wr.heap.size, 1, none⟩ = some (.int .i64 i.gen) := (World.cell?_of_block (a := ⟨wr.heap.size, 1, none⟩) (hg6.block _ hz3d (fun e => by simp at e; omega))).trans z1
      clear hown hD hown6 hg6 HF3 HM3 HPS cm z2 z3 z4 z5 z6 z7 hz3d
      have cmd' : w3.drew.cell? ⟨w.heap.size + 1 + 1, 2, none⟩ = some (.map (some (w.heap.size + 1))) := cmd
      have k0 : w3.drew.cell? ⟨wr.heap.size, 0, none⟩ = some (.int .i64 i.num) := z0
      have k1 : w3.drew.cell? ⟨wr.heap.size, 1, none⟩ = some (.int .i64 i.gen) := z1
      have HLEN := Lib.hid (show Calls Tryz.prog 50 #[.pointer (some ⟨w.heap.size + 1 + 1, 0, none⟩)] w3.drew (fun e w' => e = .returned (.int .i64 acc.length) ∧ w' = w3.drew) from flen_in _ _ _ _ _ HF3d (by omega))
      go_wp2_with fail
      go_region_held3 (fun w' => w'.cell? ⟨w.heap.size + 1 + 1, 2, none⟩ = some (.map (some (w.heap.size + 1))) ∧ w'.cell? ⟨wr.heap.size, 0, none⟩ = some (.int .i64 i.num) ∧ w'.cell? ⟨wr.heap.size, 1, none⟩ = some (.int .i64 i.gen)) (go_keep)
        ((go_at_call 50; (with_reducible refine (HLEN.out).mono ?_); rintro e w4 ⟨rfl, h4⟩; obtain rfl := h4.symm))
      all_goals go_wp2_with fail
      all_goals refine (fstr_in (w.heap.size + 2) (w.heap.size + 2) (w.heap.size + 1) acc _ w6 HF6 (by show acc.length + t'.toArray.size ≤ _; simp; omega) (by omega)).mono ?_
      all_goals rintro e w7 ⟨rfl, hf7, hb7, hk7⟩
      all_goals go_wp2
      all_goals go_roundw
      case rel => exact ⟨k + 1, acc ++ t', _, ps3, by omega, by go_num, hbw6.trans (hb7.mono (by omega)), by have := hb7.size; omega, Lib.hid HT2.out.2, Lib.hid (by rw [List.append_assoc]; exact HQ.out), hf7, HM6.kept (hb7.block _ (by omega))⟩
      case measure => simp [intOf]; omega
    · have hkn : l.drop k = [] := List.drop_eq_nil_of_le (by rw [HN.out]; omega)
      have hP := HP.out
      rw [hkn] at hP
      obtain ⟨hra, hps⟩ : acc = r ∧ ([] : List Sl) = ps2 := by rw [partsW] at hP; cases hP; exact ⟨rfl, rfl⟩
      have hpp : ps1 = ps := by have := HQ.out; rw [← hps, List.append_nil] at this; exact this
      have hkb : k = b1 := by omega
      rw [hra] at HF
      rw [hpp, hkb] at HM
      have HF' := Lib.hid HF
      have HM' := Lib.hid HM
      clear HF HM hkn hP hra hps hpp HP HQ
      go_wp2
      go_ret2
      exact ⟨rfl, HF'.out, HM'.out, hbr⟩
end Go.Proofs.YtfgdhcemidlnfaaGreatDoor
