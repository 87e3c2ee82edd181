/- The walks of the document's answer, foliantref46: Units, Utf, digits, Find, Same, utf8. -/
import Derived.Test.YtibffdaljmmdoaaGreatDoorGUtf
import Derived.BigQuiet
import Derived.Deep.QuietTactic
import Derived.Test.YtibffdaljmmdoaaGreatDoorGWr
import Derived.Test.YtibffdaljmmdoaaGreatDoorGRdC
import Derived.Test.YtibffdaljmmdoaaGreatDoorGCm
set_option linter.all false
/- The walks of the reference's Units, one and Utf. -/
namespace Go.Proofs.YtibffdaljmmdoaaGreatDoor
open Go.RowKit Fo

set_option maxRecDepth 100000 in
set_option maxHeartbeats 2000000 in
theorem rUnits_in (s : ByteArray) (hs : s.size ≤ 1000000000) (w : World) :
    Calls Tryz.prog 22 #[.string s] w fun e w' => e = .returned (.string ⟨(unitsS s.data.toList).toArray⟩) ∧ Below w.heap.size w w' := by
  obtain ⟨U, hU⟩ : ∃ U, unitsS s.data.toList = U := ⟨_, rfl⟩
  rw [hU]
  have HU := Lib.hid hU
  clear hU
  go_enter Tryz.func22, Tryz.ntmps22
  go_wp2
  go_loopw [3] (fun v wr => ∃ (pos : Nat) (acc : L), pos ≤ s.size + 3 ∧ wr.heap[w.heap.size]? = some (.stringIter s pos) ∧ Hid (U = acc ++ unitsS (s.data.toList.drop pos)) ∧ Hid (acc.length ≤ 4 * pos) ∧ ownB wr w.heap.size v acc ∧ Below w.heap.size w wr) (fun _ wr => s.size - wr.iterPos w.heap.size)
  case atStart => exact ⟨0, [], by omega, World.iter_heap _ _ _, Lib.hid (by rw [← HU.out]; simp), Lib.hid (by simp), ownB_nil _ _, belowIter (Below.refl _ _) (Nat.le_refl _) _ _⟩
  case round =>
    obtain ⟨pos, acc, hp3, hit, HA, HL, hown, hb⟩ := hrel
    obtain ⟨pv, cv, rfl⟩ := ownB_slice hown
    by_cases hp : pos < s.size
    · have hnx : ∀ ty, (Instr.next (.pointer (some ⟨w.heap.size, 0, none⟩)) true ty).run Tryz.prog wr = _ := fun ty => it_next wr w.heap.size pos s ty hit hp
      have hds := decode_small s pos
      have HR := Lib.hid (runes_at hp)
      obtain ⟨c, hc⟩ : ∃ c, (Utf8.decode s pos).1 = c := ⟨_, rfl⟩
      obtain ⟨k, hk⟩ : ∃ k, (Utf8.decode s pos).2 = k := ⟨_, rfl⟩
      rw [hc, hk] at hds HR
      simp only [hc, hk] at hnx
      have hlt : w.heap.size < wr.heap.size := (Array.getElem?_eq_some_iff.1 hit).1
      obtain ⟨w1, hw1⟩ : ∃ w1, itPut wr w.heap.size s (pos + k) = w1 := ⟨_, rfl⟩
      have hown1 : ownB w1 w.heap.size (.slice pv acc.length cv) acc := hw1 ▸ ownB_itPut hown hit (pos + k)
      have hit1 : w1.heap[w.heap.size]? = some (.stringIter s (pos + k)) := hw1 ▸ itPut_same wr w.heap.size s (pos + k) hlt
      have hb1 : Below w.heap.size w w1 := hw1 ▸ itPut_below hb (Nat.le_refl _) s (pos + k)
      rw [hw1] at hnx
      obtain ⟨r, hr⟩ : ∃ r : Int, (c : Int) = r := ⟨_, rfl⟩
      rw [hr] at hnx
      have r0 : 0 ≤ r := by omega
      have r1 : r ≤ 1114111 := by omega
      have HX := Lib.hid (And.intro hc hk)
      have hpk : pos + k ≤ s.size + 3 := by omega
      have HIP := Lib.hid (show wr.iterPos w.heap.size = pos by unfold World.iterPos; rw [hit])
      have HK1 := Lib.hid hds.2.1
      clear hw1 hown hit hb hc hk hds hlt
      by_cases hbig : 65536 ≤ c
      · have hbz : decide (65535 < r) = true := by simp; omega
        have hb6 : 65536 ≤ r := by omega
        obtain ⟨f, hf⟩ : ∃ f : Int, 55296 + (r - 65536) / 1024 = f := ⟨_, rfl⟩
        obtain ⟨g, hg⟩ : ∃ g : Int, 56320 + (r - 65536) % 1024 = g := ⟨_, rfl⟩
        have HF := Lib.hid (show unitsOf c = [UInt8.ofNat (f / 256).toNat, UInt8.ofNat (f % 256).toNat] ++ [UInt8.ofNat (g / 256).toNat, UInt8.ofNat (g % 256).toNat] by
          rw [unitB_int f (55296 + (c - 65536) / 1024) (by omega), unitB_int g (56320 + (c - 65536) % 1024) (by omega)]
          unfold unitsOf; rw [if_pos hbig])
        have f5 : 0 ≤ f := by omega
        have f6 : f < 65536 := by omega
        have g5 : 0 ≤ g := by omega
        have g6 : g < 65536 := by omega
        clear hbig hr
        have hB1 := hb1.size
        have hl1 : acc.length + 2 ≤ 140737488355328 := by have := HL.out; omega
        obtain ⟨A2, hA2⟩ : ∃ A2, acc ++ [UInt8.ofNat (f / 256).toNat, UInt8.ofNat (f % 256).toNat] = A2 := ⟨_, rfl⟩
        have HA2 := Lib.hid hA2
        have hl2 : A2.length + 2 ≤ 140737488355328 := by have := HL.out; rw [← hA2]; simp; omega
        clear hA2
        have f1 : f / 256 < 256 := by omega
        have f2 : f % 256 < 256 := by omega
        have f3 : 0 ≤ f / 256 := by omega
        have f4 : 0 ≤ f % 256 := by omega
        have g1 : g / 256 < 256 := by omega
        have g2 : g % 256 < 256 := by omega
        have g3 : 0 ≤ g / 256 := by omega
        have g4 : 0 ≤ g % 256 := by omega
        have tok1 : True := trivial
        have tok2 : True := trivial
        go_wp2_with (first | (at_builtin; have _t := tok1; refine append2 rfl _ _ rfl w.heap.size (.slice pv acc.length cv) acc (f / 256) (f % 256) hown1 rfl rfl hl1 hB1 f4 f2 f3 f1 ?_; intro v2 w2 hown2 hb2 hlt2 hkp2; rw [HA2.out] at hown2; have hB2 := Nat.le_trans hB1 (Nat.le_of_lt hlt2); obtain ⟨pv2, cv2, rfl⟩ := ownB_slice hown2; clear tok1) | (at_builtin; have _t := tok2; refine append2 rfl _ _ rfl w.heap.size (.slice pv2 A2.length cv2) A2 (g / 256) (g % 256) hown2 rfl rfl hl2 hB2 g4 g2 g3 g1 ?_; intro v3 w3 hown3 hb3 hlt3 hkp3; clear tok2))
        have hit3 := it_kept (it_kept hit1 hkp2) hkp3
        have HIP3 := Lib.hid (it_pos hit3)
        have HH := Lib.hid (And.intro hit3 (And.intro hown3 (hb1.trans (hb2.trans hb3))))
        clear hit3 hown3 hkp2 hkp3 hown2
        go_roundw
        case rel => exact ⟨pos + k, _, hpk, HH.out.1, Lib.hid (by rw [HA.out, HR.out, HF.out, ← HA2.out]; simp only [List.append_assoc]), Lib.hid (by have := HL.out; have := HK1.out; rw [← HA2.out]; simp; omega), HH.out.2.1, HH.out.2.2⟩
        case measure => rw [HIP.out, HIP3.out]; have := HK1.out; omega
      · have hbz : decide (65535 < r) = false := by simp; omega
        have HF := Lib.hid (show unitsOf c = [UInt8.ofNat (r / 256).toNat, UInt8.ofNat (r % 256).toNat] by
          rw [unitB_int r c hr]
          unfold unitsOf; rw [if_neg hbig])
        have f6 : r < 65536 := by omega
        clear hbig hr
        have hB1 := hb1.size
        have hl1 : acc.length + 2 ≤ 140737488355328 := by have := HL.out; omega
        have f1 : r / 256 < 256 := by omega
        have f2 : r % 256 < 256 := by omega
        have f3 : 0 ≤ r / 256 := by omega
        have f4 : 0 ≤ r % 256 := by omega
        go_wp2_with (at_builtin; refine append2 rfl _ _ rfl w.heap.size (.slice pv acc.length cv) acc (r / 256) (r % 256) hown1 rfl rfl hl1 hB1 f4 f2 f3 f1 ?_; intro v2 w2 hown2 hb2 hlt2 hkp2)
        have hit3 := it_kept hit1 hkp2
        have HIP3 := Lib.hid (it_pos hit3)
        have HH := Lib.hid (And.intro hit3 (And.intro hown2 (hb1.trans hb2)))
        clear hit3 hkp2 hown2
        go_roundw
        case rel => exact ⟨pos + k, _, hpk, HH.out.1, Lib.hid (by rw [HA.out, HR.out, HF.out]; simp only [List.append_assoc]), Lib.hid (by have := HL.out; have := HK1.out; simp; omega), HH.out.2.1, HH.out.2.2⟩
        case measure => rw [HIP.out, HIP3.out]; have := HK1.out; omega
    · have hnx : ∀ ty, (Instr.next (.pointer (some ⟨w.heap.size, 0, none⟩)) true ty).run Tryz.prog wr = _ := fun ty => it_end wr w.heap.size pos s ty hit hp
      have hcv := convB hown
      have HE := Lib.hid (show U = acc by rw [HA.out, List.drop_eq_nil_of_le (by simp; exact Nat.not_lt.1 hp)]; simp [unitsS, runesS, runesF, unitsR])
      go_wp2
      go_ret
      exact ⟨by rw [HE.out]; rfl, hb⟩
end Go.Proofs.YtibffdaljmmdoaaGreatDoor
/- The walks of the reference's one and Utf. -/
namespace Go.Proofs.YtibffdaljmmdoaaGreatDoor
open Go.RowKit Fo

theorem encode_eq (n : Nat) : Utf8.encode (n : Int) = ⟨(Lib.encodeRune (n : Int)).toArray⟩ := by
  unfold Utf8.encode Utf8.valid Lib.encodeRune
  by_cases h1 : n ≤ 127
  · rw [Lib.encodeRuneZ_one (by omega) (by omega)]
    have e : (((0 : Int) ≤ (n : Int) && decide ((n : Int) < 0xD800)) || (decide ((0xE000 : Int) ≤ (n : Int)) && decide ((n : Int) ≤ 0x10FFFF))) = true := by simp; omega
    simp only [e, if_true, Int.toNat_natCast]
    rw [if_pos (by omega)]; rfl
  by_cases h2 : n ≤ 2047
  · rw [Lib.encodeRuneZ_two (by omega) (by omega)]
    have e : (((0 : Int) ≤ (n : Int) && decide ((n : Int) < 0xD800)) || (decide ((0xE000 : Int) ≤ (n : Int)) && decide ((n : Int) ≤ 0x10FFFF))) = true := by simp; omega
    simp only [e, if_true, Int.toNat_natCast]
    rw [if_neg (by omega), if_pos (by omega)]
    have e1 : (192 + (n : Int) / 64).toNat = 192 + n / 64 := by omega
    have e2 : (128 + (n : Int) % 64).toNat = 128 + n % 64 := by omega
    simp only [List.map_cons, List.map_nil, e1, e2]
  by_cases h3 : (n < 55296) ∨ (57343 < n ∧ n ≤ 65535)
  · rw [Lib.encodeRuneZ_three (by omega)]
    have e : (((0 : Int) ≤ (n : Int) && decide ((n : Int) < 0xD800)) || (decide ((0xE000 : Int) ≤ (n : Int)) && decide ((n : Int) ≤ 0x10FFFF))) = true := by simp; omega
    simp only [e, if_true, Int.toNat_natCast]
    rw [if_neg (by omega), if_neg (by omega), if_pos (by omega)]
    have e1 : (224 + (n : Int) / 4096).toNat = 224 + n / 4096 := by omega
    have e2 : (128 + (n : Int) / 64 % 64).toNat = 128 + n / 64 % 64 := by omega
    have e3 : (128 + (n : Int) % 64).toNat = 128 + n % 64 := by omega
    simp only [List.map_cons, List.map_nil, e1, e2, e3]
  by_cases h4 : 65536 ≤ n ∧ n ≤ 1114111
  · rw [Lib.encodeRuneZ_four (by omega) (by omega)]
    have e : (((0 : Int) ≤ (n : Int) && decide ((n : Int) < 0xD800)) || (decide ((0xE000 : Int) ≤ (n : Int)) && decide ((n : Int) ≤ 0x10FFFF))) = true := by simp; omega
    simp only [e, if_true, Int.toNat_natCast]
    rw [if_neg (by omega), if_neg (by omega), if_neg (by omega)]
    have e1 : (240 + (n : Int) / 262144).toNat = 240 + n / 262144 := by omega
    have e2 : (128 + (n : Int) / 4096 % 64).toNat = 128 + n / 4096 % 64 := by omega
    have e3 : (128 + (n : Int) / 64 % 64).toNat = 128 + n / 64 % 64 := by omega
    have e4 : (128 + (n : Int) % 64).toNat = 128 + n % 64 := by omega
    simp only [List.map_cons, List.map_nil, e1, e2, e3, e4]
  · rw [Lib.encodeRuneZ_bad (by omega)]
    have e : (((0 : Int) ≤ (n : Int) && decide ((n : Int) < 0xD800)) || (decide ((0xE000 : Int) ≤ (n : Int)) && decide ((n : Int) ≤ 0x10FFFF))) = false := by simp; omega
    simp only [e, Bool.false_eq_true, if_false]
    rfl
theorem runesBytes_enc (ns : List Nat) : runesBytes (ns.map fun n : Nat => (n : Int)) = ⟨(encR ns).toArray⟩ := by
  unfold runesBytes
  have key : ∀ (ns : List Nat) (r : L), (ns.map fun n : Nat => (n : Int)).foldl (fun (r : ByteArray) n => r ++ Utf8.encode n) ⟨r.toArray⟩ = ⟨(r ++ encR ns).toArray⟩ := by
    intro ns
    induction ns with
    | nil => intro r; simp [encR]
    | cons n ns ih =>
      intro r
      rw [List.map_cons, List.foldl_cons, encode_eq]
      have e : (⟨r.toArray⟩ : ByteArray) ++ ⟨(Lib.encodeRune (n : Int)).toArray⟩ = ⟨(r ++ Lib.encodeRune (n : Int)).toArray⟩ := by
        apply ByteArray.ext; simp
      rw [e, ih, encR_cons, List.append_assoc]
  exact key ns []
/-- The slice v is the call's own and holds the code points l. -/
def ownR (w : World) (B : Nat) (v : Value) (l : List Nat) : Prop := w.ownsRow B 21 1 v l.length (l.map fun c : Nat => .int .i32 (c : Int))
theorem ownR_nil (w : World) (B : Nat) : ownR w B (.slice none 0 0) [] := ⟨by simp, .inl ⟨rfl, rfl⟩⟩
theorem ownR_below {w w' : World} {B : Nat} {v : Value} {l : List Nat} (h : ownR w B v l) (hb : Below w.heap.size w w') : ownR w' B v l :=
  World.ownsRow.kept h (row := none) ⟨hb.os, hb.tape, hb.output, hb.size, fun k hk _ => hb.block k hk⟩ (Classical.em _)
theorem ownR_slice {w : World} {B : Nat} {v : Value} {l : List Nat} (h : ownR w B v l) : ∃ p c, v = .slice p l.length c := by
  rcases h.2 with ⟨h1, h2⟩ | ⟨g, cap, cur, h1, _⟩
  · exact ⟨none, 0, by rw [h1, h2]⟩
  · exact ⟨_, _, h1⟩
theorem convR {w : World} {B : Nat} {v : Value} {l : List Nat} (h : ownR w B v l) : (Go.convert 74 9 v).run Tryz.prog w = .ok (.string ⟨(encR l).toArray⟩) w := by
  have h0 := h
  rcases h.2 with ⟨h1, h2⟩ | ⟨g, cap, cur, h1, h2, h3, h4, h5, h6, h7⟩
  · have hl : l = [] := List.eq_nil_of_length_eq_zero h2
    subst hl; subst h1
    rw [run_convert_runes_nil w _ _ 21 _ _ Tryz.underlying74 Tryz.underlying21 Tryz.underlying9]
    rfl
  · subst h1
    rw [run_convert_runes w _ _ 21 ⟨g, 0, none⟩ l.length cap (l.map fun n : Nat => (n : Int)) (by simp) Tryz.underlying74 Tryz.underlying21 Tryz.underlying9]
    · rw [List.take_of_length_le (by simp), runesBytes_enc]
    · intro j hj
      simp at hj
      have := World.ownsRow.cellAt h0 j (by simpa using hj)
      simp [hj] at this
      have e : (⟨g, 0, none⟩ : Addr).add j = ⟨g, j, none⟩ := by cases j <;> simp [Addr.add]
      rw [e]
      simpa [List.getD, hj] using this
/-- One code point is appended to code points of the call's own. -/
theorem appendR {ops : Array Oper} {rest : List Oper} {o : Oper} {a : Act} {Q : Exit → Act → World → Prop} {w : World} (hgd : o.guard = none) (s x : Operand)
    (ho : o.op = .call { callee := .builtin .append, args := #[s, x], argTypes := #[74, 74] })
    (B : Nat) (v : Value) (l : List Nat) (n : Int) (u : Nat) (hu : (u : Int) = n) (hown : ownR w B v l) (hs : a.eval s = v)
    (hx : a.eval x = .slice (some ⟨w.heap.size, 0, none⟩) 1 1) (hlen : l.length + 1 ≤ 30000000000000) (hB : B ≤ w.heap.size)
    (h : ∀ v' w', ownR w' B v' (l ++ [u]) → Below B w w' → wpList Tryz.prog ops Q rest (a.put o.dst v') w') :
    wpList Tryz.prog ops Q (o :: rest) a (w.alloc (.cells #[.int .i32 n] 21)) := by
  subst hu
  obtain ⟨i0, hi, hz0, hz1, hz2⟩ := info_parts Tryz.infoI32
  refine wpList_append_own _ hgd s x 74 ho B 21 i0 (.int .i32 0) 1 4 Tryz.underlying74 hi hz0 hz1 hz2 rfl (by decide) v l.length _ hs (hown.alloc _) ⟨w.heap.size, 0, none⟩ 1 1 [.int .i32 (u : Int)] hx rfl ?_ ?_ ?_ ?_ ?_ ?_
  · exact World.news_of_block (cs := #[.int .i32 (u : Int)]) (t := 21) (fr := (0, 0)) (heap_alloc_new w _)
  · intro u hu; simp at hu; subst hu; rfl
  · unfold maxLen; omega
  · omega
  · simp; omega
  · intro v' w' hown' hg _
    refine h v' w' ?_ (((Below.refl B w).alloc hB _).trans ((Below.refl B _).grown hg (by simp; omega) (own_base hown)))
    unfold ownR
    simpa using hown'
set_option maxRecDepth 100000 in
set_option maxHeartbeats 1000000 in
theorem one_in (s : ByteArray) (k : Nat) (hk : k + 1 < s.size) (hs : s.size ≤ 140737488355000) (w : World) :
    Calls Tryz.prog 39 #[.string s, .int .i64 k] w fun e w' => e = .returned (.int .i64 ((256 * (s[k]'(by omega)).toNat + (s[k + 1]'hk).toNat : Nat) : Int)) ∧ Below w.heap.size w w' := by
  obtain ⟨a, ha⟩ : ∃ a, s[k]'(by omega) = a := ⟨_, rfl⟩
  obtain ⟨b, hb⟩ : ∃ b, s[k + 1]'hk = b := ⟨_, rfl⟩
  have hb1 := UInt8.toNat_lt a
  have hb2 := UInt8.toNat_lt b
  have q1 : IntKind.i64.wrap ((k : Int) + 1) = (k : Int) + 1 := IntWalk.i64_in _ (by omega)
  have q2 : ((k : Int) + 1).toNat = k + 1 := by omega
  have q3 : (0 : Int) ≤ (k : Int) + 1 := by omega
  have hk0 : k < s.size := by omega
  rw [ha, hb]
  have e1 : IntKind.i64.wrap (256 * (a.toNat : Int)) = 256 * (a.toNat : Int) := IntWalk.i64_in _ (by omega)
  have e2 : IntKind.i64.wrap (256 * (a.toNat : Int) + b.toNat) = 256 * (a.toNat : Int) + b.toNat := IntWalk.i64_in _ (by omega)
  go_enter Tryz.func39, Tryz.ntmps39
  go_wp2_with fail
  go_quiet (fail)
  go_wp2
  go_ret
  exact ⟨ret_int (by omega), belowDrewN (Below.refl _ _) _⟩
theorem unitsN_at (s : ByteArray) (k : Nat) (hk : k + 1 < s.size) : unitsN (s.data.toList.drop k) = (256 * (s[k]'(by omega)).toNat + (s[k + 1]'hk).toNat) :: unitsN (s.data.toList.drop (k + 2)) := by
  rw [drop_get s k (by omega), drop_get s (k + 1) hk]; rfl
theorem unitsN_short (s : ByteArray) (k : Nat) (hk : s.size ≤ k) : unitsN (s.data.toList.drop k) = [] := by
  rw [List.drop_eq_nil_of_le (by simp; exact hk)]; rfl
theorem text16_bad {us : List Nat} {pre : List (Nat × Bool)} (h : signsL us = pre ++ [(0, false)]) : text16 us = none := by
  unfold text16; rw [h, if_neg (by simp)]
theorem text16_good {us : List Nat} {pre : List (Nat × Bool)} (h : signsL us = pre) (ha : pre.all (·.2) = true) : text16 us = some (encR (pre.map (·.1))) := by
  unfold text16; rw [h, if_pos ha]
  unfold textOf encR
  rw [List.flatMap_map]
set_option maxRecDepth 100000 in
set_option maxHeartbeats 2000000 in
theorem rutf_in (s : ByteArray) (hs : s.size ≤ 1000000000) (w : World) :
    Calls Tryz.prog 18 #[.string s] w fun e w' => UtfR (utfS s.data.toList) e ∧ Below w.heap.size w w' := by
  have h2 : s.data.toList.length = s.size := by simp
  have hodd : s.size % 2 = 1 ∨ s.size % 2 = 0 := by omega
  rcases hodd with hodd | hodd
  · have HV := Lib.hid (show utfS s.data.toList = none by unfold utfS; rw [h2, if_pos hodd])
    have hz : (s.size : Int) % 2 = 1 := by omega
    obtain ⟨U, hU⟩ : ∃ U, utfS s.data.toList = U := ⟨_, rfl⟩
    rw [hU] at HV
    rw [hU]
    clear h2 hodd hU
    go_enter Tryz.func18, Tryz.ntmps18
    go_wp2
    go_ret2
    exact ⟨by rw [HV.out]; rfl, Below.refl _ _⟩
  · have HS := Lib.hid (show utfS s.data.toList = text16 (unitsN s.data.toList) by unfold utfS; rw [h2, if_neg (by omega)])
    obtain ⟨U, hU⟩ : ∃ U, utfS s.data.toList = U := ⟨_, rfl⟩
    rw [hU] at HS
    rw [hU]
    have hz1 : ((s.size : Int) % 2 == 1) = false := by simp; omega
    have HE := Lib.hid hodd
    clear h2 hU hodd
    go_enter Tryz.func18, Tryz.ntmps18
    go_wp2
    go_loopw [4, 5] (fun v i wr => ∃ (k : Nat) (pre : List (Nat × Bool)), k ≤ s.size ∧ i = .int .i64 k ∧ Hid (k % 2 = 0) ∧ Hid (pre.length ≤ k) ∧ Hid (signsL (unitsN s.data.toList) = pre ++ signsL (unitsN (s.data.toList.drop k))) ∧ Hid (pre.all (·.2) = true) ∧ ownR wr w.heap.size v (pre.map (·.1)) ∧ Below w.heap.size w wr) (fun _ i _ => s.size - (intOf i).toNat)
    case atStart => exact ⟨0, [], by omega, rfl, Lib.hid rfl, Lib.hid (by simp), Lib.hid (by simp), Lib.hid rfl, ownR_nil _ _, Below.refl _ _⟩
    case round =>
      obtain ⟨k, pre, hk, rfl, HK, HP, HA, HL, hown, hb⟩ := hrel
      obtain ⟨ns, hns⟩ : ∃ ns, pre.map (·.1) = ns := ⟨_, rfl⟩
      rw [hns] at hown
      have HN := Lib.hid hns
      clear hns
      obtain ⟨pv, cv, rfl⟩ := ownR_slice hown
      by_cases hlt : k < s.size
      · have hk1 : k + 1 < s.size := by have := HE.out; have := HK.out; omega
        have HD := Lib.hid (unitsN_at s k hk1)
        have HO := Lib.hid (fun W => one_in s k hk1 (by omega) W)
        obtain ⟨u, hu⟩ : ∃ u, 256 * (s[k]'(by omega)).toNat + (s[k + 1]'hk1).toNat = u := ⟨_, rfl⟩
        have hu6 : u < 65536 := by have := UInt8.toNat_lt (s[k]'(by omega)); have := UInt8.toNat_lt (s[k + 1]'hk1); omega
        rw [hu] at HD HO
        obtain ⟨z, hz⟩ : ∃ z : Int, (u : Int) = z := ⟨_, rfl⟩
        rw [hz] at HO
        have z0 : 0 ≤ z := by omega
        have z6 : z < 65536 := by omega
        have HZ := Lib.hid hz
        have HU6 := Lib.hid hu6
        clear hu
        by_cases h1 : 56320 ≤ u ∧ u ≤ 57343
        · have d1 : decide (56320 ≤ z) = true := by simp; omega
          have d2 : decide (z ≤ 57343) = true := by simp; omega
          have HV := Lib.hid (show U = none by rw [HS.out]; exact text16_bad (by rw [HA.out, HD.out, signs_bad (by omega) (by omega)]))
          clear hz hu6 h1 hown
          go_wp2_with (go_at_call 39; refine (HO.out _).mono ?_; rintro e w1 ⟨rfl, hb1⟩)
          go_ret2
          exact ⟨by rw [HV.out]; rfl, hb.trans (hb1.mono hb.size)⟩
        · by_cases h2 : 55296 ≤ u ∧ u ≤ 56319
          · have d1 : decide (56320 ≤ z) = false := by simp; omega
            have d3 : decide (55296 ≤ z) = true := by simp; omega
            have d4 : decide (z ≤ 56319) = true := by simp; omega
            by_cases h3 : s.size ≤ k + 2
            · have d5 : decide ((s.size : Int) ≤ (k : Int) + 2) = true := by simp; omega
              have HV := Lib.hid (show U = none by rw [HS.out]; exact text16_bad (by rw [HA.out, HD.out, unitsN_short s (k + 2) h3, signs_bad (by omega) (Or.inl rfl)]))
              clear hz hu6 h1 h2 hown h3
              go_wp2_with (go_at_call 39; refine (HO.out _).mono ?_; rintro e w1 ⟨rfl, hb1⟩)
              go_ret2
              exact ⟨by rw [HV.out]; rfl, hb.trans (hb1.mono hb.size)⟩
            · have hk3 : k + 2 + 1 < s.size := by have := HE.out; have := HK.out; omega
              have HD2 := Lib.hid (unitsN_at s (k + 2) hk3)
              have e2 : ((k + 2 : Nat) : Int) = (k : Int) + 2 := by omega
              have HO2 := Lib.hid (fun W => e2 ▸ one_in s (k + 2) hk3 (by omega) W)
              obtain ⟨v, hv⟩ : ∃ v, 256 * (s[k + 2]'(by omega)).toNat + (s[k + 2 + 1]'hk3).toNat = v := ⟨_, rfl⟩
              have hv6 : v < 65536 := by have := UInt8.toNat_lt (s[k + 2]'(by omega)); have := UInt8.toNat_lt (s[k + 2 + 1]'hk3); omega
              rw [hv] at HD2 HO2
              obtain ⟨x, hx⟩ : ∃ x : Int, (v : Int) = x := ⟨_, rfl⟩
              rw [hx] at HO2
              have x0 : 0 ≤ x := by omega
              have x6 : x < 65536 := by omega
              have d5 : decide ((s.size : Int) ≤ (k : Int) + 2) = false := by simp; omega
              have hbx : Below wr.heap.size wr wr := Below.refl _ _
              by_cases h4 : v < 56320
              · have d6 : decide (x < 56320) = true := by simp; omega
                have HV := Lib.hid (show U = none by rw [HS.out]; exact text16_bad (by rw [HA.out, HD.out, HD2.out, signs_bad (by omega) (by right; right; left; exact h4)]))
                clear hz hu6 h1 h2 hown h3 e2 hv hv6 hx h4
                go_wp2_with (go_at_call 39; first | ((with_reducible refine (HO.out _).mono ?_); rintro e w1 ⟨rfl, hb1⟩; replace hbx := hbx.trans (hb1.mono hbx.size); clear hb1) | ((with_reducible refine (HO2.out _).mono ?_); rintro e w1 ⟨rfl, hb1⟩; replace hbx := hbx.trans (hb1.mono hbx.size); clear hb1))
                go_ret2
                exact ⟨by rw [HV.out]; rfl, hb.trans (hbx.mono hb.size)⟩
              · have d6 : decide (x < 56320) = false := by simp; omega
                by_cases h5 : 57343 < v
                · have d7 : decide (57343 < x) = true := by simp; omega
                  have HV := Lib.hid (show U = none by rw [HS.out]; exact text16_bad (by rw [HA.out, HD.out, HD2.out, signs_bad (by omega) (by right; right; right; simp; omega)]))
                  clear hz hu6 h1 h2 hown h3 e2 hv hv6 hx h4 h5
                  go_wp2_with (go_at_call 39; first | ((with_reducible refine (HO.out _).mono ?_); rintro e w1 ⟨rfl, hb1⟩; replace hbx := hbx.trans (hb1.mono hbx.size); clear hb1) | ((with_reducible refine (HO2.out _).mono ?_); rintro e w1 ⟨rfl, hb1⟩; replace hbx := hbx.trans (hb1.mono hbx.size); clear hb1))
                  go_ret2
                  exact ⟨by rw [HV.out]; rfl, hb.trans (hbx.mono hb.size)⟩
                · have d7 : decide (57343 < x) = false := by simp; omega
                  have HA2 := Lib.hid (show signsL (unitsN s.data.toList) = pre ++ ((65536 + (u - 55296) * 1024 + (v - 56320), true) :: signsL (unitsN (s.data.toList.drop (k + 4)))) by
                    rw [HA.out, HD.out, HD2.out, signs_pair (by omega) (by omega)])
                  have HQ := Lib.hid (show ((65536 + (u - 55296) * 1024 + (v - 56320) : Nat) : Int) = 65536 + 1024 * (z - 55296) + x - 56320 by omega)
                  have HNL := Lib.hid (show ns.length ≤ k by rw [← HN.out, List.length_map]; exact HP.out)
                  have z5 : 55296 ≤ z := by omega
                  have z7 : z ≤ 56319 := by omega
                  have hnl : ns.length + 1 ≤ 30000000000000 := by have := HNL.out; omega
                  clear hz hu6 h1 h2 h3 e2 hv hv6 hx h4 h5
                  have HOWN := Lib.hid hown
                  clear hown
                  go_wp2_with (first | (go_at_call 39; first | ((with_reducible refine (HO.out _).mono ?_); rintro e w1 ⟨rfl, hb1⟩; replace hbx := hbx.trans (hb1.mono hbx.size); clear hb1) | ((with_reducible refine (HO2.out _).mono ?_); rintro e w1 ⟨rfl, hb1⟩; replace hbx := hbx.trans (hb1.mono hbx.size); clear hb1)) | (at_builtin; refine appendR rfl _ _ rfl w.heap.size (.slice pv ns.length cv) ns (65536 + 1024 * (z - 55296) + x - 56320) _ HQ.out (ownR_below HOWN.out hbx) rfl rfl hnl (Nat.le_trans hb.size hbx.size) ?_; intro v5 w5 hown5 hb5))
                  go_roundw
                  case rel => exact ⟨k + 4, pre ++ [(65536 + (u - 55296) * 1024 + (v - 56320), true)], by omega, by go_num, Lib.hid (by have := HK.out; omega), Lib.hid (by have := HP.out; simp; omega), Lib.hid (by rw [HA2.out, List.append_assoc]; rfl), Lib.hid (by rw [List.all_append, HL.out]; rfl), by rw [List.map_append, HN.out]; exact hown5, (hb.trans (hbx.mono hb.size)).trans hb5⟩
                  case measure => simp [intOf]; omega
          · have HA2 := Lib.hid (show signsL (unitsN s.data.toList) = pre ++ ((u, true) :: signsL (unitsN (s.data.toList.drop (k + 2)))) by
              rw [HA.out, HD.out, signs_plain (by omega)])
            have HNL := Lib.hid (show ns.length ≤ k by rw [← HN.out, List.length_map]; exact HP.out)
            have hnl : ns.length + 1 ≤ 30000000000000 := by have := HNL.out; omega
            have HOWN := Lib.hid hown
            have hbx : Below wr.heap.size wr wr := Below.refl _ _
            by_cases h3 : u < 55296
            · have d1 : decide (56320 ≤ z) = false := by simp; omega
              have d3 : decide (55296 ≤ z) = false := by simp; omega
              clear hz hu6 h1 h2 h3 hown
              go_wp2_with (first | (go_at_call 39; refine (HO.out _).mono ?_; rintro e w1 ⟨rfl, hb1⟩; replace hbx := hbx.trans (hb1.mono hbx.size); clear hb1) | (at_builtin; refine appendR rfl _ _ rfl w.heap.size (.slice pv ns.length cv) ns z u HZ.out (ownR_below HOWN.out hbx) rfl rfl hnl (Nat.le_trans hb.size hbx.size) ?_; intro v5 w5 hown5 hb5))
              go_roundw
              case rel => exact ⟨k + 2, pre ++ [(u, true)], by omega, by go_num, Lib.hid (by have := HK.out; omega), Lib.hid (by have := HP.out; simp; omega), Lib.hid (by rw [HA2.out, List.append_assoc]; rfl), Lib.hid (by rw [List.all_append, HL.out]; rfl), by rw [List.map_append, HN.out]; exact hown5, (hb.trans (hbx.mono hb.size)).trans hb5⟩
              case measure => simp [intOf]; omega
            · have d1 : decide (56320 ≤ z) = true := by simp; omega
              have d2 : decide (z ≤ 57343) = false := by simp; omega
              have d3 : decide (55296 ≤ z) = true := by simp; omega
              have d4 : decide (z ≤ 56319) = false := by simp; omega
              clear hz hu6 h1 h2 h3 hown
              go_wp2_with (first | (go_at_call 39; refine (HO.out _).mono ?_; rintro e w1 ⟨rfl, hb1⟩; replace hbx := hbx.trans (hb1.mono hbx.size); clear hb1) | (at_builtin; refine appendR rfl _ _ rfl w.heap.size (.slice pv ns.length cv) ns z u HZ.out (ownR_below HOWN.out hbx) rfl rfl hnl (Nat.le_trans hb.size hbx.size) ?_; intro v5 w5 hown5 hb5))
              go_roundw
              case rel => exact ⟨k + 2, pre ++ [(u, true)], by omega, by go_num, Lib.hid (by have := HK.out; omega), Lib.hid (by have := HP.out; simp; omega), Lib.hid (by rw [HA2.out, List.append_assoc]; rfl), Lib.hid (by rw [List.all_append, HL.out]; rfl), by rw [List.map_append, HN.out]; exact hown5, (hb.trans (hbx.mono hb.size)).trans hb5⟩
              case measure => simp [intOf]; omega
      · have HF := Lib.hid (show U = some (encR ns) by
          rw [HS.out, ← HN.out]
          exact text16_good (by rw [HA.out, unitsN_short s k (by omega)]; simp [signsL]) HL.out)
        have hcv := convR hown
        go_wp2
        go_ret2
        exact ⟨by rw [HF.out]; rfl, hb⟩
end Go.Proofs.YtibffdaljmmdoaaGreatDoor
/- The reference of the mapping layer: digits, Find, Same, utf8. -/
namespace Go.Proofs.YtibffdaljmmdoaaGreatDoor
open Go.RowKit Fo Go.Maps

set_option maxRecDepth 100000 in
set_option maxHeartbeats 1000000 in
theorem rdig_one (k : Nat) (hk : k < 10) (b : UInt8) (hb : UInt8.ofNat (48 + k) = b) (w : World) :
    Calls Tryz.prog 36 #[.int .i64 k] w fun e w' => e = .returned (.string ⟨[b].toArray⟩) ∧ Below w.heap.size w w' := by
  have d0 : decide ((k : Int) < 10) = true := by simp; omega
  have hb : (48 + (k : Int)) = (b.toNat : Int) := by rw [← hb]; simp; omega
  have hcv := conv1 w (48 + (k : Int)) b hb 1
  clear hb
  go_enter Tryz.func36, Tryz.ntmps36
  go_wp2
  go_ret
  exact ⟨rfl, (by repeat' (first | (with_reducible first | exact Below.refl _ _ | refine Below.drew ?_ | refine belowDrewN ?_ _ | refine belowIter ?_ ?_ _ _ | refine Below.setCell ?_ ?_ _ | refine Below.alloc ?_ ?_ _ | refine bT hb4 ?_ ?_ | refine bT hb3 ?_ ?_ | refine bT hb2 ?_ ?_ | refine bT hb1 ?_ ?_ | refine bT hbr ?_ ?_ | refine bT hb ?_ ?_) | (simp; done) | (simp; omega) | omega))⟩
set_option maxRecDepth 100000 in
set_option maxHeartbeats 1000000 in
theorem rdig_in : ∀ (n k : Nat), k < 10 ^ n → 1 ≤ n → n ≤ 10 → ∀ (w : World),
    Calls Tryz.prog 36 #[.int .i64 k] w fun e w' => e = .returned (.string ⟨(decL n k).toArray⟩) ∧ Below w.heap.size w w'
  | 0, k, hk, h1, _, w => by omega
  | n + 1, k, hk, _, hn, w => by
    rw [decL]
    by_cases h : k < 10
    · rw [if_pos h]; exact rdig_one k h _ rfl w
    · rw [if_neg h]
      have hn1 : 1 ≤ n := by
        rcases n with _ | n
        · simp at hk; omega
        · omega
      have hk2 : k / 10 < 10 ^ n := by rw [Nat.div_lt_iff_lt_mul (by decide)]; rw [Nat.pow_succ] at hk; exact hk
      have H1 := Lib.hid (fun W => rdig_in n (k / 10) hk2 hn1 (by omega) W)
      obtain ⟨b, hb⟩ : ∃ b, UInt8.ofNat (48 + k % 10) = b := ⟨_, rfl⟩
      have H2 := Lib.hid (fun W => rdig_one (k % 10) (by omega) b hb W)
      rw [hb]
      have hl := decL_len n (k / 10)
      have hkm : k < 10000000000 := Nat.lt_of_lt_of_le hk (Nat.le_trans (Nat.pow_le_pow_right (by decide) hn) (by decide : 10 ^ 10 ≤ 10000000000))
      obtain ⟨D, hD⟩ : ∃ D, decL n (k / 10) = D := ⟨_, rfl⟩
      rw [hD] at H1 hl ⊢
      obtain ⟨q, hq⟩ : ∃ q, k / 10 = q := ⟨_, rfl⟩
      obtain ⟨r, hr⟩ : ∃ r, k % 10 = r := ⟨_, rfl⟩
      have hqi : (k : Int).tdiv 10 = (q : Int) := by rw [← hq]; rfl
      have hri : (k : Int).tmod 10 = (r : Int) := by rw [← hr]; rfl
      have hrl : r < 10 := by omega
      have hwq : wrap64 ((q : Nat) : Int) = (q : Int) := by unfold wrap64; omega
      rw [hq] at H1
      rw [hr] at H2
      have d0 : decide ((k : Int) < 10) = false := by simp; omega
      have y1 : D.length + 1 ≤ 9223372036854775807 := by omega
      clear hD hk hk2 hn hq hr hb
      go_enter Tryz.func36, Tryz.ntmps36
      go_wp2_with fail
      refine (H1.out _).mono ?_
      rintro e w1 ⟨rfl, hb1⟩
      have hz1 := hb1.size
      go_wp2_with fail
      refine (H2.out _).mono ?_
      rintro e w2 ⟨rfl, hb2⟩
      have hz2 := hb2.size
      go_wp2
      go_ret
      exact ⟨by first | rfl | (congr 2; simp [ByteArray.mk_append_mk]), hb1.trans (hb2.mono hz1)⟩
set_option maxRecDepth 100000 in
set_option maxHeartbeats 1000000 in
theorem rfind_in (v : Value) (m : CM) (c : Int) (w : World) (hv : MArg w v m) (hm : m.length ≤ 1000000) :
    Calls Tryz.prog 12 #[v, .int .i64 c] w fun e w' => e = .returned (match findC m c with | none => .tuple #[.string ⟨#[]⟩, .bool false] | some x => .tuple #[.string ⟨x.toArray⟩, .bool true]) ∧ Below w.heap.size w w' := by
  obtain ⟨p, cp, rfl, hcell⟩ := hv
  have HC := Lib.hid hcell
  clear hcell
  obtain ⟨R, hR⟩ : ∃ R, (match findC m c with | none => .tuple #[.string ⟨#[]⟩, .bool false] | some x => .tuple #[.string ⟨x.toArray⟩, .bool true] : Value) = R := ⟨_, rfl⟩
  rw [hR]
  have HR := Lib.hid hR
  clear hR
  obtain ⟨N, hN⟩ : ∃ N, m.length = N := ⟨_, rfl⟩
  rw [hN]
  have hN1 : N ≤ 1000000 := by omega
  go_enter Tryz.func12, Tryz.ntmps12
  go_wp2
  go_loopw [6] (fun i wr => ∃ k : Nat, k ≤ N ∧ i = .int .i64 k ∧ Hid (∀ j (hj : j < m.length), j < k → (m[j]).1 ≠ c) ∧ Below w.heap.size w wr) (fun i _ => N - (intOf i).toNat)
  case atStart => exact ⟨0, Nat.zero_le _, rfl, Lib.hid (fun j _ h => absurd h (Nat.not_lt_zero _)), Below.refl _ _⟩
  case round =>
    obtain ⟨k, hk, rfl, HF, hbr⟩ := hrel
    have hzr := hbr.size
    by_cases hlk : k < N
    · have hlk2 : k < m.length := by rw [hN]; exact hlk
      obtain ⟨g, off, rfl, hg, d0, d1⟩ := HC.out k hlk2
      obtain ⟨d, hd⟩ : ∃ d, (m[k]).1 = d := ⟨_, rfl⟩
      obtain ⟨x, hx⟩ : ∃ x, (m[k]).2 = x := ⟨_, rfl⟩
      rw [hd] at d0
      rw [hx] at d1
      have c0 := (World.cell?_of_block (hbr.block g hg)).trans d0
      have c1 := (World.cell?_of_block (hbr.block g hg)).trans d1
      have HD := Lib.hid hd
      have HXX := Lib.hid hx
      clear d0 d1 hx hd
      by_cases hdc : d = c
      · have e1 : (d == c) = true := by simpa using hdc
        obtain rfl : R = .tuple #[.string ⟨x.toArray⟩, .bool true] := by
          rw [← HR.out, find_some hlk2 (by rw [HD.out]; exact hdc) (fun j hj => HF.out j (by omega) hj), HXX.out]
        clear hdc
        go_wp2
        refine bodyPost_ret (v := .tuple #[.string ⟨x.toArray⟩, .bool true]) (by simp [results, Tryz.results12, go_sem]) rfl ⟨rfl, hbr⟩
      · have e1 : (d == c) = false := by simpa using hdc
        have HX := Lib.hid (show ∀ j (hj : j < m.length), j < k + 1 → (m[j]).1 ≠ c from fun j hj hjk => by
          by_cases h : j < k
          · exact HF.out j hj h
          · obtain rfl : j = k := by omega
            rw [HD.out]; exact hdc)
        clear hdc
        go_wp2
        go_roundw
        case rel => exact ⟨k + 1, by omega, by go_num, HX, hbr⟩
        case measure => simp [intOf]; omega
    · obtain rfl : R = .tuple #[.string ⟨#[]⟩, .bool false] := by
        rw [← HR.out, find_none (fun j hj => HF.out j hj (by omega))]
      go_wp2
      refine bodyPost_ret (v := .tuple #[.string ⟨#[]⟩, .bool false]) (by simp [results, Tryz.results12, go_sem]) rfl ⟨rfl, hbr⟩
end Go.Proofs.YtibffdaljmmdoaaGreatDoor
/- The reference of the mapping layer: Same, utf8. -/
namespace Go.Proofs.YtibffdaljmmdoaaGreatDoor
open Go.RowKit Fo Go.Maps

set_option maxRecDepth 100000 in
set_option maxHeartbeats 1000000 in
theorem rsame_in (v1 v2 : Value) (m1 m2 : CM) (w : World) (hv1 : MArg w v1 m1) (hv2 : MArg w v2 m2) (hm : m1.length ≤ 1000000) (hm2 : m2.length ≤ 1000000) :
    Calls Tryz.prog 13 #[v1, v2] w fun e w' => e = .returned (.bool (decide (m1 = m2))) ∧ Below w.heap.size w w' := by
  obtain ⟨p1, cp1, rfl, hcell1⟩ := hv1
  obtain ⟨p2, cp2, rfl, hcell2⟩ := hv2
  have HC1 := Lib.hid hcell1
  have HC2 := Lib.hid hcell2
  clear hcell1 hcell2
  obtain ⟨R, hR⟩ : ∃ R, decide (m1 = m2) = R := ⟨_, rfl⟩
  rw [hR]
  have HR := Lib.hid hR
  clear hR
  obtain ⟨N1, hN1⟩ : ∃ N, m1.length = N := ⟨_, rfl⟩
  obtain ⟨N2, hN2⟩ : ∃ N, m2.length = N := ⟨_, rfl⟩
  rw [hN1, hN2]
  by_cases hlen : N1 = N2
  rotate_left
  · have d0 : (((N1 : Nat) : Int) != (N2 : Int)) = true := by simp; omega
    obtain rfl : R = false := by rw [← HR.out]; simp; rintro rfl; exact hlen (hN1.symm.trans hN2)
    clear hlen
    go_enter Tryz.func13, Tryz.ntmps13
    go_wp2
    go_ret
    exact ⟨rfl, (by repeat' (first | (with_reducible first | exact Below.refl _ _ | refine Below.drew ?_ | refine belowDrewN ?_ _ | refine belowIter ?_ ?_ _ _ | refine Below.setCell ?_ ?_ _ | refine Below.alloc ?_ ?_ _ | refine bT hb4 ?_ ?_ | refine bT hb3 ?_ ?_ | refine bT hb2 ?_ ?_ | refine bT hb1 ?_ ?_ | refine bT hbr ?_ ?_ | refine bT hb ?_ ?_) | (simp; done) | (simp; omega) | omega))⟩
  subst hlen
  go_enter Tryz.func13, Tryz.ntmps13
  go_wp2
  go_loopw [5] (fun i wr => ∃ k : Nat, k ≤ N1 ∧ i = .int .i64 k ∧ Hid (∀ j (hj : j < m1.length) (hj2 : j < m2.length), j < k → m1[j] = m2[j]) ∧ Below w.heap.size w wr) (fun i _ => N1 - (intOf i).toNat)
  case atStart => exact ⟨0, Nat.zero_le _, rfl, Lib.hid (fun j _ _ h => absurd h (Nat.not_lt_zero _)), Below.refl _ _⟩
  case round =>
    obtain ⟨k, hk, rfl, HF, hbr⟩ := hrel
    have hzr := hbr.size
    by_cases hlk : k < N1
    · have hlk1 : k < m1.length := by omega
      have hlk2 : k < m2.length := by omega
      obtain ⟨g1, o1, rfl, hg1, a0, a1⟩ := HC1.out k hlk1
      obtain ⟨g2, o2, rfl, hg2, b0, b1⟩ := HC2.out k hlk2
      have HE := Lib.hid (show m1[k] = m2[k] ↔ ((m1[k]).1 = (m2[k]).1 ∧ (m1[k]).2 = (m2[k]).2) from Prod.ext_iff)
      obtain ⟨d1, hd1⟩ : ∃ d, (m1[k]).1 = d := ⟨_, rfl⟩
      obtain ⟨x1, hx1⟩ : ∃ x, (m1[k]).2 = x := ⟨_, rfl⟩
      obtain ⟨d2, hd2⟩ : ∃ d, (m2[k]).1 = d := ⟨_, rfl⟩
      obtain ⟨x2, hx2⟩ : ∃ x, (m2[k]).2 = x := ⟨_, rfl⟩
      rw [hd1, hd2, hx1, hx2] at HE
      rw [hd1] at a0; rw [hx1] at a1; rw [hd2] at b0; rw [hx2] at b1
      have c0 := (World.cell?_of_block (hbr.block g1 hg1)).trans a0
      have c1 := (World.cell?_of_block (hbr.block g1 hg1)).trans a1
      have c2 := (World.cell?_of_block (hbr.block g2 hg2)).trans b0
      have c3 := (World.cell?_of_block (hbr.block g2 hg2)).trans b1
      clear a0 a1 b0 b1 hd1 hx1 hd2 hx2
      by_cases hsame : d1 = d2 ∧ x1 = x2
      · have e1 : (d1 == d2) = true := by simpa using hsame.1
        have e2 : (x1 == x2) = true := by simpa using hsame.2
        have HX := Lib.hid (show ∀ j (hj : j < m1.length) (hj2 : j < m2.length), j < k + 1 → m1[j] = m2[j] from fun j hj hj2 hjk => by
          by_cases h : j < k
          · exact HF.out j hj hj2 h
          · obtain rfl : j = k := by omega
            exact HE.out.2 hsame)
        clear hsame
        go_wp2
        go_region
        go_wp2
        go_roundw
        case rel => exact ⟨k + 1, by omega, by go_num, HX, hbr.drew⟩
        case measure => simp [intOf]; omega
      · obtain rfl : R = false := by
          rw [← HR.out]; simp; rintro rfl; exact hsame (HE.out.1 rfl)
        have htot : (d1 == d2) = false ∨ (d1 == d2) = true ∧ (x1 == x2) = false := by
          cases h : (d1 == d2)
          · exact .inl rfl
          · refine .inr ⟨rfl, ?_⟩
            cases h2 : (x1 == x2)
            · rfl
            · exact absurd ⟨by simpa using h, by simpa using h2⟩ hsame
        clear hsame
        rcases htot with e1 | ⟨e1, e2⟩
        · go_wp2
          go_region
          go_wp2
          go_ret
          exact ⟨rfl, hbr.drew⟩
        · go_wp2
          go_region
          go_wp2
          go_ret
          exact ⟨rfl, hbr.drew⟩
    · obtain rfl : R = true := by
        rw [← HR.out]; simp
        exact List.ext_getElem (hN1.trans hN2.symm) (fun j hj hj2 => HF.out j hj hj2 (by omega))
      go_wp2
      go_ret
      exact ⟨rfl, hbr⟩
theorem rsame_refl (v1 v2 : Value) (M : CM) (w : World) (h1 : MArg w v1 M) (h2 : MArg w v2 M) (hm : M.length ≤ 1000000) :
    Calls Tryz.prog 13 #[v1, v2] w fun e w' => e = .returned (.bool true) ∧ Below w.heap.size w w' :=
  (rsame_in v1 v2 M M w h1 h2 hm hm).mono fun e w' ⟨he, hb⟩ => ⟨by rw [he, decide_eq_true rfl], hb⟩
end Go.Proofs.YtibffdaljmmdoaaGreatDoor
/- The reference of the mapping layer: utf8. -/
namespace Go.Proofs.YtibffdaljmmdoaaGreatDoor
open Go.RowKit Fo Go.Maps

set_option maxRecDepth 100000 in
set_option maxHeartbeats 1000000 in
theorem rutf8_in (s : ByteArray) (hs : s.size ≤ 1000000) (w : World) :
    Calls Tryz.prog 41 #[.string s] w fun e w' => e = .returned (.bool (Lib.validD s.data.toList)) ∧ Below w.heap.size w w' := by
  have HU := Lib.hid (fun W => rUnits_in s (by omega) W)
  have hul : (unitsS s.data.toList).length ≤ 4 * s.data.toList.length := unitsS_len s.data.toList
  have h2 : s.data.toList.length = s.size := by simp
  obtain ⟨U, hU⟩ : ∃ U, unitsS s.data.toList = U := ⟨_, rfl⟩
  rw [hU] at HU hul
  have HR := Lib.hid (fun W => rutf_in ⟨U.toArray⟩ (by show U.length ≤ _; omega) W)
  have hsome : utfS U = some (encR (runesS s.data.toList)) := by rw [← hU]; exact utf_units _
  have hv : Lib.validD s.data.toList = (encR (runesS s.data.toList) == s.data.toList) := by
    cases h : Lib.validD s.data.toList
    · have : ¬ encR (runesS s.data.toList) = s.data.toList := fun e => by
        have := (validD_iff _).2 e; rw [h] at this; cases this
      rw [beq_eq_false_iff_ne.2 this]
    · rw [(validD_iff _).1 h]; simp
  simp only [List.toList_toArray, hsome] at HR
  rw [hv]
  obtain ⟨E, hE⟩ : ∃ E, encR (runesS s.data.toList) = E := ⟨_, rfl⟩
  rw [hE] at HR ⊢
  obtain ⟨l, hl⟩ : ∃ l, s.data.toList = l := ⟨_, rfl⟩
  obtain ⟨⟨d⟩⟩ := s
  obtain rfl : d = l := hl
  clear hU hul hsome hv hE h2
  go_enter Tryz.func41, Tryz.ntmps41
  go_wp2_with fail
  refine (HU.out _).mono ?_
  rintro e w1 ⟨rfl, hb1⟩
  have hz1 := hb1.size
  go_wp2_with fail
  refine (HR.out _).mono ?_
  rintro e w2 ⟨hUr, hb2⟩
  unfold UtfR at hUr
  obtain rfl := hUr
  go_wp2
  go_ret
  exact ⟨by simp, hb1.trans (hb2.mono hz1)⟩
end Go.Proofs.YtibffdaljmmdoaaGreatDoor
