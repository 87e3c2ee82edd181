/- The walks of Read and Find of the mapping layer. -/
import Derived.Test.YtibffdaljmmdoaaGreatDoorGRdA
import Derived.Test.YtibffdaljmmdoaaGreatDoorShelfC
import Derived.Test.YtibffdaljmmdoaaGreatDoorGRdB
import Derived.Test.YtibffdaljmmdoaaGreatDoorGCm
import Derived.Test.YtibffdaljmmdoaaGreatDoorGUtf
set_option linter.all false
/- The keys of a mapping, in order. -/
namespace Go.Proofs.YtibffdaljmmdoaaGreatDoor
open Go.RowKit Fo Go.Maps Go.Sort Go.Shelf

def keysBox (w : World) (b : Nat) : World := w.alloc (.cells #[.map (some b)] 46)
theorem keys_in (b : Nat) (w : World) :
    Calls Tryz.prog 26 #[.map (some b)] w fun e w' => e = .returned (.func (.func 49) #[] #[.pointer (some ⟨w.heap.size, 0, none⟩)]) ∧ w' = keysBox w b :=
  (callsIn_wide (n := 5)).1 (AnyZI.keys_in Tryz.keysA Fence.wide 5 trivial rfl (some b) w)
theorem sortsA (m : Nat) : AnyZI.SortsIn Tryz.prog Tryz.sortedA_ren Fence.wide m :=
  ⟨fun blk off cap ss W hH hblk hsz => callsIn_wide.2 (Tryz.slices_Sort_int blk off cap ss W hH hblk hsz),
   fun p cap W => callsIn_wide.2 (Tryz.slices_Sort_int_none p cap W)⟩
theorem MapC.perm {D : DataW Unit} {m : CM} (h : MapC D m) {w : World} {b n : Nat} {R : Value → Option (DataW Unit × List MemPlace)} (hown : w.ownsMap Tryz.prog 3 R b n D) : (m.map Prod.fst).Perm (intKeys D) := by
  have hK : Keyed Tryz.prog 3 := int_keyed Tryz.underlying3
  have hC : CollectedI D (fun _ => false) (m.map Prod.fst) := by
    refine ⟨?_, fun x => ?_⟩
    · refine List.pairwise_map.2 (h.sorted.imp fun {p q} hpq => ?_)
      exact fun e => by omega
    · rw [h.has x]
      simp only [List.mem_map, List.any_eq_true, beq_iff_eq, and_true]
  exact hC.perm hown hK Tryz.underlying3 (fun _ => rfl)
theorem MapC.keys {D : DataW Unit} {m : CM} (h : MapC D m) {w : World} {b n : Nat} {R : Value → Option (DataW Unit × List MemPlace)} (hown : w.ownsMap Tryz.prog 3 R b n D) {ss : List Int} (hs : ss.Perm (intKeys D)) :
    ss.mergeSort (fun x y => decide (x ≤ y)) = m.map Prod.fst := by
  rw [mergeSort_of_perm_i (hs.trans (h.perm hown).symm)]
  refine List.mergeSort_of_pairwise ?_
  refine List.pairwise_map.2 (h.sorted.imp fun {p q} hpq => ?_)
  simp only [leI, decide_eq_true_eq]; omega
theorem MpAt.length {w : World} {b n : Nat} {m : CM} (h : MpAt w b n m) : m.length ≤ n := by
  obtain ⟨D0, ⟨es, clock, hb, Ft, hs, hD⟩, hC⟩ := h
  have h1 := hC.size
  rw [hD, Maps.size_eq, DataW.length_sorted] at h1
  simp at h1; omega
theorem sorted_in (b n : Nat) (m : CM) (w : World) (h : MpAt w b n m) (hn : n ≤ 1000000) :
    Calls Tryz.prog 25 #[.func (.func 49) #[] #[.pointer (some ⟨w.heap.size, 0, none⟩)]] (keysBox w b) fun e w' =>
      ∃ v, e = .returned v ∧ w'.ownsRow (w.heap.size + 1) 3 1 v m.length ((m.map Prod.fst).map (Value.int .i64)) ∧ (v = .slice none 0 0 ↔ m = []) ∧ Below (w.heap.size + 1) (keysBox w b) w' := by
  obtain ⟨D0, hown, hC⟩ := h
  have hbl := hown.lt
  have hsz : Maps.size D0 ≤ 1000000 := by
    obtain ⟨es, clock, hb, Ft, hs, hD⟩ := hown
    rw [hC.size]
    have h1 := hC.size
    rw [hD, Maps.size_eq, DataW.length_sorted] at h1
    simp at h1; omega
  have hseq : SeqGives Fence.wide 2 Tryz.prog 49 #[.pointer (some ⟨w.heap.size, 0, none⟩)] encZ (fun ss => ss.Perm (intKeys D0)) (Maps.size D0) (keysBox w b) :=
    AnyZI.keys_gives (ρ := Tryz.keysA_ren) { Tryz.keysA with } Fence.wide _ trivial rfl (by omega) w.heap.size b n D0 _ (by simp [keysBox]) (by simp [keysBox]) (by
      obtain ⟨es, clock, hb, Ft, hs, hD⟩ := hown
      exact ⟨es, clock, (Below.heap_alloc _ _ b hbl).trans hb, Ft, hs, hD⟩)
  have cS := AnyZI.sorted_in Tryz.sortedA Fence.wide 5 trivial trivial trivial trivial rfl (by omega) (sortsA _) (enters_of Tryz.func48 (by kernel_rfl) rfl) 49 #[.pointer (some ⟨w.heap.size, 0, none⟩)] trivial (enters_of Tryz.func49 (by kernel_rfl) rfl) _ _ (by unfold maxLen; omega) (by omega) _ hseq
  refine ((callsIn_wide (n := 5)).1 cS).mono ?_
  rintro e w' ⟨v, ss, rfl, hS, hrow, hnil, hb⟩
  have hk := hC.keys hown hS
  have hl : ss.length = m.length := by
    have := congrArg List.length hk
    rw [List.length_mergeSort, List.length_map] at this; exact this
  have e1 : (keysBox w b).heap.size = w.heap.size + 1 := by simp [keysBox]
  rw [hk, hl, e1] at hrow
  rw [e1] at hb
  refine ⟨v, rfl, hrow, hnil.trans ?_, hb⟩
  constructor
  · intro h; rw [h] at hl; exact List.eq_nil_of_length_eq_zero hl.symm
  · intro h; rw [h] at hl; exact List.eq_nil_of_length_eq_zero hl
end Go.Proofs.YtibffdaljmmdoaaGreatDoor
/- Read of the mapping layer: rows of codes and texts. -/
namespace Go.Proofs.YtibffdaljmmdoaaGreatDoor
open Go.RowKit Fo Go.Maps

theorem keyRow_cell {w : World} {B : Nat} {p : Option Addr} {n c : Nat} {ks : List Int} (h : w.ownsRow B 3 1 (.slice p n c) ks.length (ks.map (Value.int .i64))) (k : Nat) (hk : k < ks.length) :
    ∃ g, p = some ⟨g, 0, none⟩ ∧ B ≤ g ∧ g < w.heap.size ∧ w.cell? ⟨g, k, none⟩ = some (.int .i64 ks[k]) := by
  have h0 := h
  rcases h.2 with ⟨h1, h2⟩ | ⟨g, cap, cur, h1, h2, h3, h4, h5, h6, h7⟩
  · cases h1; omega
  · cases h1
    refine ⟨g, rfl, h2, (Array.getElem?_eq_some_iff.1 h3).1, ?_⟩
    have := World.ownsRow.cellAt h0 k (by simpa using hk)
    simpa [hk] using this
theorem keyRow_slice {w : World} {B n : Nat} {v : Value} {xs : List Value} (h : w.ownsRow B 3 1 v n xs) : ∃ p c, v = .slice p n c := by
  rcases h.2 with ⟨rfl, h0⟩ | ⟨g, cap, cur, rfl, _⟩
  · exact ⟨none, 0, by rw [h0]⟩
  · exact ⟨_, cap, rfl⟩
/-- The text under a code. -/
theorem MpAt.look {w : World} {mb n : Nat} {m : CM} (h : MpAt w mb n m) (k : Nat) (hk : k < m.length) :
    (Instr.lookup 46 (.map (some mb)) (.int .i64 (m[k]).1) false).run Tryz.prog w = .ok (.string ⟨(m[k]).2.toArray⟩) w := by
  obtain ⟨D, hown, hD⟩ := h
  have hwf := intKeys_wf hown Tryz.underlying3 (m[k]).1 ((hD.perm hown).mem_iff.1 (List.mem_map.2 ⟨_, List.getElem_mem hk, rfl⟩))
  have hkey := keyOf_int_mk Tryz.underlying3 hwf
  obtain ⟨v0, ps0, hrun, hv0⟩ := hown.lookup (int_keyed Tryz.underlying3) Tryz.underlying46 (zeroStr w) (plainElem_string Tryz.underlying9 (by unfold maxLen; decide)) hkey
  rw [hD.at' _ (List.getElem_mem hk)] at hv0
  obtain ⟨v1, rfl, h2, _⟩ := plainElem_string_inv Tryz.underlying9 hv0
  have e : (m[k]).2 = v1.data.toList := (show (m[k]).2 = v1.data.toList ∧ ps0 = [] by simpa using h2).1
  rw [hrun, e]
/-- What Read turns. -/
def ReadT (w : World) (l : L) (e : Ending) (w' : World) : Prop :=
  match readC l with
  | .bad k => e = .returned (.tuple #[.slice none 0 0, .bool false, .int .i64 k]) ∧ Below w.heap.size w w'
  | .good (m, b) => ∃ v, e = .returned (.tuple #[v, .bool b, .int .i64 0]) ∧ m.length ≤ 4096 ∧ mownS w' w.heap.size v m ∧ Below w.heap.size w w'
theorem readC_of {l : L} {σ : CS} (h : readF (l.length + 1) l ⟨0, 0, []⟩ = .good σ) : readC l = .good (σ.m, σ.size == 2) := by
  unfold readC; rw [h]
theorem readC_bad {l : L} {k : Int} (h : readF (l.length + 1) l ⟨0, 0, []⟩ = .bad k) : readC l = .bad k := by
  unfold readC; rw [h]
def ReadQ (w : World) (R : Res CS) (e : Ending) (w' : World) : Prop :=
  match R with
  | .bad k => e = .returned (.tuple #[.slice none 0 0, .bool false, .int .i64 k]) ∧ Below w.heap.size w w'
  | .good σ => ∃ v, e = .returned (.tuple #[v, .bool (σ.size == 2), .int .i64 0]) ∧ σ.m.length ≤ 4096 ∧ mownS w' w.heap.size v σ.m ∧ Below w.heap.size w w'
theorem ReadT_of {w : World} {l : L} {R : Res CS} (h : readF (l.length + 1) l ⟨0, 0, []⟩ = R) : ReadT w l = ReadQ w R := by
  funext e w'
  unfold ReadT
  cases R with
  | bad k => rw [readC_bad h]; rfl
  | good σ => rw [readC_of h]; rfl
theorem Bes2.new {B r m : Nat} {w w1 w' : World} (hb : Below B w w1) (h : Bes2 r m w1 w') (hr : B ≤ r) (hm : B ≤ m) (hB : B ≤ w1.heap.size) : Below B w w' :=
  ⟨h.os.trans hb.os, h.tape.trans hb.tape, h.output.trans hb.output, Nat.le_trans hb.size h.size, fun k hk => (h.block k (by omega) (by omega) (by omega)).trans (hb.block k hk)⟩
set_option maxRecDepth 100000 in
set_option maxHeartbeats 2000000 in
theorem cmread_in (s : ByteArray) (hs : s.size ≤ 1000000000) (m : Int) (w : World) (hm : MaxW w m) :
    Calls Tryz.prog 9 #[.string s] w (ReadT w s.data.toList) := by
  have hlen : s.data.toList.length = s.size := by simp
  have hmk : ∀ w, (Instr.makeMap 46 none).run Tryz.prog w = .ok (.map (some w.heap.size)) (w.alloc (.map #[] 0)) := fun _ => by kernel_rfl
  have HRD := Lib.hid (fun W hW hS => qread_in (w.heap.size + 1) s 0 w.heap.size ⟨0, 0, []⟩ (Nat.zero_le _) hs m W hW hS (by decide) (s.data.toList.length + 1) (by rw [hlen]; omega))
  rw [List.drop_zero] at HRD
  obtain ⟨R, hR⟩ : ∃ R, readF (s.data.toList.length + 1) s.data.toList ⟨0, 0, []⟩ = R := ⟨_, rfl⟩
  rw [hR] at HRD
  have hS0 : SQ ((w.alloc (.map #[] 0)).alloc (.cells #[.string s, .int .i64 0, .int .i64 0, .int .i64 0, .map (some w.heap.size)] 48)) (w.heap.size + 1) s 0 w.heap.size ⟨0, 0, []⟩ := by
    refine ⟨?_, ?_⟩
    · have := heap_alloc_new (w.alloc (.map #[] 0)) (.cells #[.string s, .int .i64 0, .int .i64 0, .int .i64 0, .map (some w.heap.size)] 48)
      simpa [QAt] using this
    · exact MpAt.kept ⟨_, World.ownsMap_made w _ _ _, MapC.nil⟩ (Below.heap_alloc _ _ _ (by simp))
  rw [ReadT_of hR]
  cases R with
  | bad k =>
    have k1 : (k != 0) = true := by have := readF_ge hR (by omega); simp; omega
    clear hR hlen
    go_enter Tryz.func9, Tryz.ntmps9
    go_wp2_with fail
    refine (HRD.out _ (hm.below (by repeat' (first | (with_reducible first | exact Below.refl _ _ | refine Below.drew ?_ | refine belowDrewN ?_ _ | refine belowIter ?_ ?_ _ _ | refine Below.setCell ?_ ?_ _ | refine Below.alloc ?_ ?_ _ | refine bT hb4 ?_ ?_ | refine bT hb3 ?_ ?_ | refine bT hb2 ?_ ?_ | refine bT hb1 ?_ ?_ | refine bT hbr ?_ ?_ | refine bT hb ?_ ?_) | (simp; done) | (simp; omega) | omega))) hS0).mono ?_
    rintro e w1 ⟨rfl, hb1⟩
    go_wp2
    refine bodyPost_ret (v := .tuple #[.slice none 0 0, .bool false, .int .i64 k]) (by simp [results, Tryz.results9, go_sem]) rfl ?_
    exact ⟨rfl, Bes2.new (B := w.heap.size) (show Below w.heap.size w ((w.alloc (.map #[] 0)).alloc (.cells #[.string s, .int .i64 0, .int .i64 0, .int .i64 0, .map (some w.heap.size)] 48)) from (by repeat' (first | (with_reducible first | exact Below.refl _ _ | refine Below.drew ?_ | refine belowDrewN ?_ _ | refine belowIter ?_ ?_ _ _ | refine Below.setCell ?_ ?_ _ | refine Below.alloc ?_ ?_ _ | refine bT hb4 ?_ ?_ | refine bT hb3 ?_ ?_ | refine bT hb2 ?_ ?_ | refine bT hb1 ?_ ?_ | refine bT hbr ?_ ?_ | refine bT hb ?_ ?_) | (simp; done) | (simp; omega) | omega))) hb1 (by omega) (Nat.le_refl _) (by simp; omega)⟩
  | good σ =>
    clear hR hlen
    go_enter Tryz.func9, Tryz.ntmps9
    go_wp2_with fail
    refine (HRD.out _ (hm.below (by repeat' (first | (with_reducible first | exact Below.refl _ _ | refine Below.drew ?_ | refine belowDrewN ?_ _ | refine belowIter ?_ ?_ _ _ | refine Below.setCell ?_ ?_ _ | refine Below.alloc ?_ ?_ _ | refine bT hb4 ?_ ?_ | refine bT hb3 ?_ ?_ | refine bT hb2 ?_ ?_ | refine bT hb1 ?_ ?_ | refine bT hbr ?_ ?_ | refine bT hb ?_ ?_) | (simp; done) | (simp; omega) | omega))) hS0).mono ?_
    rintro e w1 ⟨rfl, ⟨a1, ha1, hS1⟩, ht1, hb1⟩
    have HB1 := Lib.hid (Bes2.new (B := w.heap.size) (show Below w.heap.size w ((w.alloc (.map #[] 0)).alloc (.cells #[.string s, .int .i64 0, .int .i64 0, .int .i64 0, .map (some w.heap.size)] 48)) from (by repeat' (first | (with_reducible first | exact Below.refl _ _ | refine Below.drew ?_ | refine belowDrewN ?_ _ | refine belowIter ?_ ?_ _ _ | refine Below.setCell ?_ ?_ _ | refine Below.alloc ?_ ?_ _ | refine bT hb4 ?_ ?_ | refine bT hb3 ?_ ?_ | refine bT hb2 ?_ ?_ | refine bT hb1 ?_ ?_ | refine bT hbr ?_ ?_ | refine bT hb ?_ ?_) | (simp; done) | (simp; omega) | omega))) hb1 (by omega) (Nat.le_refl _) (by simp; omega))
    have hz1 := hb1.size
    simp at hz1
    have hml := hS1.m.length
    obtain ⟨hc0, hc1, hc2, hc3, hc4⟩ := hS1.q.cells
    go_wp2_with fail
    refine (keys_in w.heap.size _).mono ?_
    rintro e w2 ⟨rfl, rfl⟩
    go_wp2_with fail
    refine (sorted_in w.heap.size σ.told σ.m w1 hS1.m (by omega)).mono ?_
    rintro e w3 ⟨v3, rfl, hrow, _, hb3⟩
    obtain ⟨p3, c3, rfl⟩ := keyRow_slice hrow
    have hB3 : Below w1.heap.size w1 w3 := ((Below.refl _ _).alloc (Nat.le_refl _) _).trans (hb3.mono (by omega))
    have hS3 : SQ w3 (w.heap.size + 1) s a1 w.heap.size σ := hS1.below hB3
    have HB3 := Lib.hid (HB1.out.trans (hB3.mono (by omega)))
    have hz3 := hB3.size
    have HROW := Lib.hid hrow
    have HT := Lib.hid ht1
    clear hrow hb3 hB3 hS1 hc0 hc1 hc2 hc3 hc4 hb1 hS0 HRD HB1 ht1
    obtain ⟨N, hN⟩ : ∃ N, σ.m.length = N := ⟨_, rfl⟩
    rw [hN] at HROW hml
    rw [hN]
    have HT2 := HT.out
    go_wp2
    go_loopw [7, 26] (fun v i wr => ∃ (k : Nat) (acc : CM), k ≤ N ∧ i = .int .i64 k ∧ acc.length = k ∧ Hid (acc = σ.m.take k) ∧ mownS wr w3.heap.size v acc ∧ Below w3.heap.size w3 wr) (fun _ i _ => N - (intOf i).toNat)
    case atStart => exact ⟨0, [], Nat.zero_le _, rfl, rfl, Lib.hid (by simp), mownS_nil _ _, Below.refl _ _⟩
    case round =>
      obtain ⟨k, acc, hk, rfl, hal, HA, hown, hbr⟩ := hrel
      obtain ⟨pv, cv, rfl⟩ := mown_slice hown
      have hSr := hS3.below hbr
      obtain ⟨hc0, hc1, hc2, hc3, hc4⟩ := hSr.q.cells
      have hzr := hbr.size
      by_cases hlk : k < N
      · have hlk2 : k < σ.m.length := by rw [hN]; exact hlk
        obtain ⟨g, rfl, hg1, hg2, d0⟩ := keyRow_cell (ks := σ.m.map Prod.fst) (by rw [List.length_map, hN]; exact HROW.out) k (by rw [List.length_map]; exact hlk2)
        have d1 : wr.cell? ⟨g, k, none⟩ = some (.int .i64 (σ.m[k]).1) := by
          rw [World.cell?_of_block (hbr.block g hg2), d0]; simp
        have hlook := hSr.m.look k hlk2
        have HTK := Lib.hid (show acc ++ [((σ.m[k]).1, (σ.m[k]).2)] = σ.m.take (k + 1) by rw [HA.out]; exact List.take_append_getElem hlk2)
        obtain ⟨c, hc⟩ : ∃ c, (σ.m[k]).1 = c := ⟨_, rfl⟩
        obtain ⟨x, hx⟩ : ∃ x, (σ.m[k]).2 = x := ⟨_, rfl⟩
        rw [hc] at d1 hlook HTK
        rw [hx] at hlook HTK
        clear hc hx d0
        have HO := Lib.hid hown
        clear hown
        go_wp2_with (at_builtin; refine mappend rfl _ _ rfl w3.heap.size (.slice pv acc.length cv) acc c x HO.out rfl rfl (by omega) (by omega) ?_; intro p6 c6 w6 own6 hb6 hlt6)
        go_roundw
        case rel => exact ⟨k + 1, acc ++ [(c, x)], by omega, by go_num, by simp [hal], HTK, (by have := own6; rw [hal] at this; exact this), hbr.trans hb6⟩
        case measure => simp [intOf]; omega
      · have hkN : k = N := by omega
        obtain rfl : acc = σ.m := by rw [HA.out, List.take_of_length_le (by omega)]
        have hml2 : σ.m.length ≤ 4096 := by omega
        have HBW := Lib.hid (HB3.out.trans (hbr.mono (by omega)))
        go_wp2
        go_region
        go_wp2
        have e2 : (((σ.size : Nat) : Int) == 2) = (σ.size == 2) := by
          by_cases h : σ.size = 2
          · rw [h]; rfl
          · have h1 : ¬((σ.size : Nat) : Int) = 2 := by omega
            rw [beq_eq_false_iff_ne.2 h1, beq_eq_false_iff_ne.2 h]
        refine bodyPost_ret (v := .tuple #[.slice pv σ.m.length cv, .bool (((σ.size : Nat) : Int) == 2), .int .i64 0]) (by simp [results, Tryz.results9, go_sem]) rfl ?_
        exact ⟨_, by rw [e2], hml2, own_low hown (by omega), HBW.out.drew⟩
end Go.Proofs.YtibffdaljmmdoaaGreatDoor
/- Find of the mapping layer. -/
namespace Go.Proofs.YtibffdaljmmdoaaGreatDoor
open Go.RowKit Fo Go.Maps

set_option maxRecDepth 100000 in
set_option maxHeartbeats 1000000 in
theorem find1_in (d c : Int) (x : ByteArray) (b : Nat) (w : World) (hc : w.cell? ⟨b, 0, none⟩ = some (.int .i64 c)) (hb : b < w.heap.size) :
    Calls Tryz.prog 30 #[.agg #[.int .i64 d, .string x], .pointer (some ⟨b, 0, none⟩)] w fun e w' => e = .returned (.bool (d == c)) ∧ Below w.heap.size w w' := by
  have hne : ¬ b = w.heap.size := by omega
  have hne2 : ¬ w.heap.size = b := by omega
  go_enter Tryz.func30, Tryz.ntmps30
  go_wp2
  go_ret
  exact ⟨rfl, (by repeat' (first | (with_reducible first | exact Below.refl _ _ | refine Below.drew ?_ | refine belowDrewN ?_ _ | refine belowIter ?_ ?_ _ _ | refine Below.setCell ?_ ?_ _ | refine Below.alloc ?_ ?_ _ | refine bT hb4 ?_ ?_ | refine bT hb3 ?_ ?_ | refine bT hb2 ?_ ?_ | refine bT hb1 ?_ ?_ | refine bT hbr ?_ ?_ | refine bT hb ?_ ?_) | (simp; done) | (simp; omega) | omega))⟩
def FoundAt (m : CM) (c z : Int) : Prop := (z = -1 ∧ ∀ k (hk : k < m.length), (m[k]).1 ≠ c) ∨ ∃ k, ∃ hk : k < m.length, z = (k : Int) ∧ (m[k]).1 = c ∧ ∀ j (hj : j < k), (m[j]'(by omega)).1 ≠ c
set_option maxRecDepth 100000 in
set_option maxHeartbeats 1000000 in
theorem index_in (v : Value) (m : CM) (c : Int) (b : Nat) (w : World) (hv : MArg w v m) (hm : m.length ≤ 1000000) (hc : w.cell? ⟨b, 0, none⟩ = some (.int .i64 c)) (hb : b < w.heap.size) :
    Calls Tryz.prog 29 #[v, .func (.func 30) #[] #[.pointer (some ⟨b, 0, none⟩)]] w fun e w' => ∃ z, e = .returned (.int .i64 z) ∧ FoundAt m c z ∧ Below w.heap.size w w' := by
  obtain ⟨p, cp, rfl, hcell⟩ := hv
  obtain ⟨N, hN⟩ : ∃ N, m.length = N := ⟨_, rfl⟩
  have HC := Lib.hid hcell
  clear hcell
  rw [hN]
  have hN1 : N ≤ 1000000 := by omega
  go_enter Tryz.func29, Tryz.ntmps29
  go_wp2
  go_loopw [8] (fun i wr => ∃ k : Nat, k ≤ N ∧ i = .int .i64 k ∧ Hid (∀ j (hj : j < m.length), j < k → (m[j]).1 ≠ c) ∧ Below w.heap.size w wr) (fun i _ => N - (intOf i).toNat)
  case atStart => exact ⟨0, Nat.zero_le _, rfl, Lib.hid (fun j _ h => absurd h (Nat.not_lt_zero _)), Below.refl _ _⟩
  case round =>
    obtain ⟨k, hk, rfl, HF, hbr⟩ := hrel
    have hzr := hbr.size
    by_cases hlk : k < N
    · have hlk2 : k < m.length := by rw [hN]; exact hlk
      obtain ⟨g, off, rfl, hg, d0, d1⟩ := HC.out k hlk2
      obtain ⟨d, hd⟩ : ∃ d, (m[k]).1 = d := ⟨_, rfl⟩
      obtain ⟨x, hx⟩ : ∃ x, (m[k]).2 = x := ⟨_, rfl⟩
      rw [hd] at d0
      rw [hx] at d1
      have c0 := (World.cell?_of_block (hbr.block g hg)).trans d0
      have c1 := (World.cell?_of_block (hbr.block g hg)).trans d1
      have cb : wr.cell? ⟨b, 0, none⟩ = some (.int .i64 c) := (World.cell?_of_block (hbr.block b hb)).trans hc
      have HD := Lib.hid hd
      clear d0 d1 hx hd
      by_cases hdc : d = c
      · have e1 : (d == c) = true := by simpa using hdc
        have HX := Lib.hid (show FoundAt m c (k : Int) from .inr ⟨k, hlk2, rfl, by rw [HD.out]; exact hdc, fun j hj => HF.out j (by omega) hj⟩)
        clear hdc
        go_wp2_with fail
        refine (find1_in d c _ b wr cb (by omega)).mono ?_
        rintro e w1 ⟨rfl, hb1⟩
        have HB1 := Lib.hid (hbr.trans (hb1.mono hzr))
        go_wp2
        go_ret
        exact ⟨_, rfl, HX.out, HB1.out⟩
      · have e1 : (d == c) = false := by simpa using hdc
        have HX := Lib.hid (show ∀ j (hj : j < m.length), j < k + 1 → (m[j]).1 ≠ c from fun j hj hjk => by
          by_cases h : j < k
          · exact HF.out j hj h
          · obtain rfl : j = k := by omega
            rw [HD.out]; exact hdc)
        clear hdc
        go_wp2_with fail
        refine (find1_in d c _ b wr cb (by omega)).mono ?_
        rintro e w1 ⟨rfl, hb1⟩
        have HB1 := Lib.hid (hbr.trans (hb1.mono hzr))
        go_wp2
        go_roundw
        case rel => exact ⟨k + 1, by omega, by go_num, HX, HB1.out⟩
        case measure => simp [intOf]; omega
    · have hkN : k = N := by omega
      have HX := Lib.hid (show FoundAt m c (-1) from .inl ⟨rfl, fun j hj => HF.out j hj (by omega)⟩)
      go_wp2
      go_ret
      exact ⟨_, rfl, HX.out, hbr⟩
theorem find_none {m : CM} {c : Int} (h : ∀ k (hk : k < m.length), (m[k]).1 ≠ c) : findC m c = none := by
  unfold findC
  rw [List.find?_eq_none.2 (fun x hx => ?_)]; · rfl
  obtain ⟨k, hk, rfl⟩ := List.mem_iff_getElem.1 hx
  simpa using h k hk
theorem find_some {m : CM} {c : Int} {k : Nat} (hk : k < m.length) (h1 : (m[k]).1 = c) (h2 : ∀ j (hj : j < k), (m[j]'(by omega)).1 ≠ c) : findC m c = some (m[k]).2 := by
  unfold findC
  rw [List.find?_eq_some_iff_getElem.2 ⟨by simpa using h1, k, hk, rfl, fun j hj => by simpa using h2 j hj⟩]; rfl
set_option maxRecDepth 100000 in
set_option maxHeartbeats 1000000 in
theorem find_in (v : Value) (m : CM) (c : Int) (w : World) (hv : MArg w v m) (hm : m.length ≤ 1000000) :
    Calls Tryz.prog 11 #[v, .int .i64 c] w fun e w' => e = .returned (match findC m c with | none => .tuple #[.string ⟨#[]⟩, .bool false] | some x => .tuple #[.string ⟨x.toArray⟩, .bool true]) ∧ Below w.heap.size w w' := by
  have hmf : ∀ (fn : Fn) (first cap : Array Value) (w : World), (Instr.makeFunc fn first cap).run Tryz.prog w = .ok (.func fn first cap) w := fun _ _ _ _ => rfl
  have HI := Lib.hid (index_in v m c w.heap.size (w.alloc (.cells #[.int .i64 c] 3)) (hv.below (by repeat' (first | (with_reducible first | exact Below.refl _ _ | refine Below.drew ?_ | refine belowDrewN ?_ _ | refine belowIter ?_ ?_ _ _ | refine Below.setCell ?_ ?_ _ | refine Below.alloc ?_ ?_ _ | refine bT hb4 ?_ ?_ | refine bT hb3 ?_ ?_ | refine bT hb2 ?_ ?_ | refine bT hb1 ?_ ?_ | refine bT hbr ?_ ?_ | refine bT hb ?_ ?_) | (simp; done) | (simp; omega) | omega))) hm (by simp [go_sem]) (by simp))
  obtain ⟨p, cp, rfl, hcell⟩ := hv
  have HC := Lib.hid hcell
  clear hcell
  obtain ⟨R, hR⟩ : ∃ R, (match findC m c with | none => .tuple #[.string ⟨#[]⟩, .bool false] | some x => .tuple #[.string ⟨x.toArray⟩, .bool true] : Value) = R := ⟨_, rfl⟩
  rw [hR]
  obtain ⟨N, hN⟩ : ∃ N, m.length = N := ⟨_, rfl⟩
  rw [hN] at HI ⊢
  have hN1 : N ≤ 1000000 := by omega
  go_enter Tryz.func11, Tryz.ntmps11
  go_wp2_with fail
  refine HI.out.mono ?_
  rintro e w1 ⟨z, rfl, hF, hb1⟩
  have HB1 := Lib.hid (hb1.mono (show w.heap.size ≤ _ by simp))
  have hz1 := hb1.size
  simp at hz1
  rcases hF with ⟨rfl, hn⟩ | ⟨k, hk, rfl, h1, h2⟩
  · rw [find_none hn] at hR
    subst hR
    clear hn
    go_wp2
    refine bodyPost_ret (v := .tuple #[.string ⟨#[]⟩, .bool false]) (by simp [results, Tryz.results11, go_sem]) rfl ⟨rfl, (show Below w.heap.size w (w.alloc _) from (Below.refl _ _).alloc (Nat.le_refl _) _).trans HB1.out⟩
  · rw [find_some hk h1 h2] at hR
    obtain ⟨g, off, rfl, hg, d0, d1⟩ := HC.out k hk
    obtain ⟨x, hx⟩ : ∃ x, (m[k]).2 = x := ⟨_, rfl⟩
    rw [hx] at d1 hR
    subst hR
    have c1 := (World.cell?_of_block (hb1.block g (by simp; omega))).trans ((World.cell?_of_block (Below.heap_alloc _ _ g hg)).trans d1)
    have hkN : k < N := by omega
    clear d0 d1 h1 h2 hx
    go_wp2
    refine bodyPost_ret (v := .tuple #[.string ⟨x.toArray⟩, .bool true]) (by simp [results, Tryz.results11, go_sem]) rfl ⟨rfl, (show Below w.heap.size w (w.alloc _) from (Below.refl _ _).alloc (Nat.le_refl _) _).trans HB1.out⟩
end Go.Proofs.YtibffdaljmmdoaaGreatDoor
