/- The walk of table.refuse at a table that is well made. -/
import Derived.Test.YtfgdhcemidlnfaaGreatDoorGTb
import Derived.Test.YtfgdhcemidlnfaaGreatDoorGVaB
set_option linter.all false
namespace Go.Proofs.YtfgdhcemidlnfaaGreatDoor
open Go.RowKit Fo

theorem eight_at {w : World} {b : Nat} {t : TypeId} {v0 v1 v2 v3 v4 v5 v6 v7 v8 v9 v10 : Value} (h : w.heap[b]? = some (.cells #[v0, v1, v2, v3, v4, v5, v6, v7, v8, v9, v10] t (0, 0))) :
    w.cell? ⟨b, 0, none⟩ = some v0 ∧ w.cell? ⟨b, 1, none⟩ = some v1 ∧ w.cell? ⟨b, 2, none⟩ = some v2 ∧ w.cell? ⟨b, 3, none⟩ = some v3 ∧ w.cell? ⟨b, 4, none⟩ = some v4 ∧ w.cell? ⟨b, 5, none⟩ = some v5 ∧ w.cell? ⟨b, 6, none⟩ = some v6 ∧ w.cell? ⟨b, 7, none⟩ = some v7 := by
  simp [World.cell?, h]
set_option maxRecDepth 100000 in
set_option maxHeartbeats 2000000 in
theorem trefuse_in (S : Nat → Prop) (d : Nat) (z k n g x1 x2 x3 : Int) (s : L) (p1 p2 p : Option Addr) (m1 c1 m2 c2 cp : Nat) (l : List Sl) (o : Ob) (w : World)
    (hv : RArg slE w (.slice p l.length cp) l) (hl : SlotsOk l) (ho : ObjAt S d w [.int .i64 k, .int .i64 n, .int .i64 g, .string ⟨s.toArray⟩, .slice p1 m1 c1, .slice p2 m2 c2] o) (hsm : smallO d o) (hS : ∀ b, S b → b < w.heap.size)
    (hc : checkB 24 o = 0) (hk : k = 7) :
    Calls Tryz.prog 88 #[.agg #[.int .i64 z, .slice p l.length cp, .int .i64 k, .int .i64 n, .int .i64 g, .string ⟨s.toArray⟩, .slice p1 m1 c1, .slice p2 m2 c2, .int .i64 x1, .int .i64 x2, .int .i64 x3]] w fun e w' => e = .returned (.int .i64 0) ∧ Below w.heap.size w w' := by
  have HT := Lib.hid (fun (W : World) (hW : Below w.heap.size w W) => tcheck_in (.slice p l.length cp) l W (hv.below hW) hl)
  have HC := Lib.hid (fun (W : World) (hW : Below w.heap.size w W) => vCheck_in S d W _ o (ho.kept (fun b h => hW.block b (hS b h)) d) hsm (fun b h => Nat.lt_of_lt_of_le (hS b h) hW.size))
  rw [hc] at HC
  subst hk
  obtain ⟨N, hN⟩ : ∃ N, l.length = N := ⟨_, rfl⟩
  have HV := Lib.hid hv
  have HN := Lib.hid hN
  have HL := Lib.hid hl.2
  have hn1 : N ≤ 8192 := by have := hl.1; omega
  rw [hN] at HV HT
  rw [hN]
  clear hv hN hl ho hsm hS hc
  go_enter Tryz.func88, Tryz.ntmps88
  go_wp2_with fail
  refine (HT.out _ ((Below.refl _ w).alloc (Nat.le_refl _) _)).mono ?_
  rintro e w1 ⟨rfl, hb1⟩
  obtain ⟨w0, hw0⟩ : ∃ w0, w.alloc (.cells #[.int .i64 z, .slice p N cp, .int .i64 7, .int .i64 n, .int .i64 g, .string ⟨s.toArray⟩, .slice p1 m1 c1, .slice p2 m2 c2, .int .i64 x1, .int .i64 x2, .int .i64 x3] 42) = w0 := ⟨_, rfl⟩
  have HX := Lib.hid (show w0.heap[w.heap.size]? = some (.cells #[.int .i64 z, .slice p N cp, .int .i64 7, .int .i64 n, .int .i64 g, .string ⟨s.toArray⟩, .slice p1 m1 c1, .slice p2 m2 c2, .int .i64 x1, .int .i64 x2, .int .i64 x3] 42) by rw [← hw0]; exact heap_new_at w (.cells #[.int .i64 z, .slice p N cp, .int .i64 7, .int .i64 n, .int .i64 g, .string ⟨s.toArray⟩, .slice p1 m1 c1, .slice p2 m2 c2, .int .i64 x1, .int .i64 x2, .int .i64 x3] 42) _ rfl)
  have hlt0 : w.heap.size < w0.heap.size := by rw [← hw0]; simp
  have hbw0 : Below w.heap.size w w0 := by rw [← hw0]; exact (Below.refl _ w).alloc (Nat.le_refl _) _
  rw [hw0] at hb1
  clear hw0
  obtain ⟨z0, z1, z2, z3, z4, z5, z6, z7⟩ := eight_at ((hb1.block _ hlt0).trans HX.out)
  go_wp2
  go_loopw [18] (fun i wr => ∃ k : Nat, k ≤ N ∧ i = .int .i64 k ∧ Below w0.heap.size w0 wr) (fun i _ => N - (intOf i).toNat)
  case atStart => exact ⟨0, Nat.zero_le _, rfl, hb1⟩
  case round =>
    obtain ⟨k, hk, rfl, hbr⟩ := hrel
    clear z0 z1 z2 z3 z4 z5 z6 z7
    have hzr := hbr.size
    by_cases hlk : k < N
    · have hvr : RArg slE wr (.slice p N cp) l := HV.out.below (hbw0.trans (hbr.mono hbw0.size))
      have hk' : k < l.length := by rw [HN.out]; exact hlk
      obtain ⟨b, off, rfl, hblt, a0, a1, a2, a3⟩ := slot_at hvr k hk'
      have hK := (HL.out k l[k] (List.getElem?_eq_getElem hk')).kind
      obtain ⟨M, hMe⟩ : ∃ N, l[k].num = N := ⟨_, rfl⟩
      obtain ⟨kd, hke⟩ : ∃ N, l[k].kind = N := ⟨_, rfl⟩
      obtain ⟨a, hae⟩ : ∃ N, l[k].a = N := ⟨_, rfl⟩
      obtain ⟨gg, hge⟩ : ∃ N, l[k].b = N := ⟨_, rfl⟩
      rw [hMe] at a0
      rw [hke] at a1 hK
      rw [hae] at a2
      rw [hge] at a3
      have hbne : ¬ b = wr.heap.size := by omega
      have d2 : ¬ kd = 2 := by omega
      clear hvr hK hMe hke hae hge
      go_wp2
      go_roundw
      case rel => exact ⟨k + 1, by omega, by go_num, hbr.alloc hbr.size _⟩
      case measure => simp [intOf]; omega
    · obtain ⟨z0, z1, z2, z3, z4, z5, z6, z7⟩ := eight_at ((hbr.block _ hlt0).trans HX.out)
      go_wp2
      clear z0 z1 z2 z3 z4 z5 z6 z7 hk hlk
      go_loopw [29] (fun i wq => ∃ k : Nat, k ≤ N ∧ i = .int .i64 k ∧ Below w0.heap.size w0 wq) (fun i _ => N - (intOf i).toNat)
      case atStart => exact ⟨0, Nat.zero_le _, rfl, hbr⟩
      case round =>
        obtain ⟨k, hk, rfl, hbq⟩ := hrel
        have hzq := hbq.size
        by_cases hlk : k < N
        · have hvr : RArg slE _ (.slice p N cp) l := HV.out.below (hbw0.trans (hbq.mono hbw0.size))
          have hk' : k < l.length := by rw [HN.out]; exact hlk
          obtain ⟨b, off, rfl, hblt, a0, a1, a2, a3⟩ := slot_at hvr k hk'
          have hK := (HL.out k l[k] (List.getElem?_eq_getElem hk')).num
          have hF := (HL.out k l[k] (List.getElem?_eq_getElem hk')).first
          obtain ⟨M, hMe⟩ : ∃ N, l[k].num = N := ⟨_, rfl⟩
          obtain ⟨kd, hke⟩ : ∃ N, l[k].kind = N := ⟨_, rfl⟩
          obtain ⟨a, hae⟩ : ∃ N, l[k].a = N := ⟨_, rfl⟩
          obtain ⟨gg, hge⟩ : ∃ N, l[k].b = N := ⟨_, rfl⟩
          rw [hMe] at a0 hK
          rw [hke] at a1 hF
          rw [hae] at a2
          rw [hge] at a3 hF
          have hbne := Nat.ne_of_lt hblt
          by_cases hM0 : M = 0
          · obtain ⟨rfl, rfl⟩ := hF (by omega)
            subst hM0
            clear hvr hK hF hMe hke hae hge
            go_wp2
            go_roundw
            case rel => exact ⟨k + 1, by omega, by go_num, hbq.alloc hbq.size _⟩
            case measure => simp [intOf]; omega
          · clear hvr hK hF hMe hke hae hge
            go_wp2
            go_roundw
            case rel => exact ⟨k + 1, by omega, by go_num, hbq.alloc hbq.size _⟩
            case measure => simp [intOf]; omega
        · obtain ⟨z0, z1, z2, z3, z4, z5, z6, z7⟩ := eight_at ((hbq.block _ hlt0).trans HX.out)
          go_wp2_with fail
          refine (HC.out _ (hbw0.trans (hbq.mono hbw0.size))).mono ?_
          rintro e w3 ⟨rfl, hb3⟩
          have hbz := hbq.trans (hb3.mono hzq)
          clear z0 z1 z2 z3 z4 z5 z6 z7
          obtain ⟨z0, z1, z2, z3, z4, z5, z6, z7⟩ := eight_at ((hbz.block _ hlt0).trans HX.out)
          go_wp2
          go_ret
          exact ⟨rfl, hbw0.trans (hbz.mono hbw0.size)⟩
end Go.Proofs.YtfgdhcemidlnfaaGreatDoor
