/- The walks of body's checks. -/
import Derived.Test.YtfgdhcemidlnfaaGreatDoorGWr
import Derived.Test.YtfgdhcemidlnfaaGreatDoorGVaB
import Derived.Recover
import Derived.Test.YtfgdhcemidlnfaaGreatDoorGVaC
import Derived.Test.YtfgdhcemidlnfaaGreatDoorGDo
set_option linter.all false
/- The walks of body.need and body.must where nothing is refused, and at a refusal of words. -/
namespace Go.Proofs.YtfgdhcemidlnfaaGreatDoor
open Go.RowKit Fo

theorem need_yes (k : Int) (w : World) : Calls Tryz.prog 171 #[.bool true, .int .i64 k] w fun e w' => e = .returned (.tuple #[]) ∧ w' = w := by
  go_enter Tryz.func171, Tryz.ntmps171
  go_wp2
  go_end0
  exact ⟨rfl, rfl⟩
theorem need_no (k : Int) (w : World) : Calls Tryz.prog 171 #[.bool false, .int .i64 k] w fun e w' => e = .panicked [{ v := .iface 186 (.agg #[.int .i64 k]), recovered := false }] ∧ w' = w := by
  go_enter Tryz.func171, Tryz.ntmps171
  go_wp2
  exact ⟨rfl, rfl, rfl⟩
set_option maxHeartbeats 400000 in
theorem musts_yes (s : L) (w : World) : Calls Tryz.prog 131 #[.string ⟨s.toArray⟩, .int .i64 0] w fun e w' => e = .returned (.string ⟨s.toArray⟩) ∧ w' = w := by
  have HN := Lib.hid (fun W => need_yes 0 W)
  go_enter Tryz.func131, Tryz.ntmps131
  go_wp2_with fail
  refine (HN.out _).mono ?_
  rintro e w1 ⟨rfl, rfl⟩
  go_wp2
  go_ret
  exact ⟨rfl, rfl⟩
set_option maxRecDepth 100000 in
set_option maxHeartbeats 400000 in
theorem musto_yes (k n g : Int) (s : L) (p1 p2 : Option Addr) (n1 c1 n2 c2 : Nat) (w : World) :
    Calls Tryz.prog 132 #[.agg #[.int .i64 k, .int .i64 n, .int .i64 g, .string ⟨s.toArray⟩, .slice p1 n1 c1, .slice p2 n2 c2], .int .i64 0] w fun e w' => e = .returned (.agg #[.int .i64 k, .int .i64 n, .int .i64 g, .string ⟨s.toArray⟩, .slice p1 n1 c1, .slice p2 n2 c2]) ∧ Below w.heap.size w w' := by
  have HN := Lib.hid (fun W => need_yes 0 W)
  go_enter Tryz.func132, Tryz.ntmps132
  go_wp2_with fail
  refine (HN.out _).mono ?_
  rintro e w1 ⟨rfl, rfl⟩
  go_wp2
  refine bodyPost_ret (v := .agg #[.int .i64 k, .int .i64 n, .int .i64 g, .string ⟨s.toArray⟩, .slice p1 n1 c1, .slice p2 n2 c2]) ?_ rfl ⟨rfl, (by repeat' (first | (with_reducible first | exact Below.refl _ _ | refine Below.drew ?_ | refine belowDrewN ?_ _ | refine belowIter ?_ ?_ _ _ | refine Below.setCell ?_ ?_ _ | refine Below.alloc ?_ ?_ _ | refine bT hb4 ?_ ?_ | refine bT hb3 ?_ ?_ | refine bT hb2 ?_ ?_ | refine bT hb1 ?_ ?_ | refine bT hbr ?_ ?_ | refine bT hb ?_ ?_) | (simp; done) | (simp; omega) | omega))⟩
  simp [results, Tryz.results132, go_sem]
end Go.Proofs.YtfgdhcemidlnfaaGreatDoor
/- The walk of body.Check at an item that is valid. -/
namespace Go.Proofs.YtfgdhcemidlnfaaGreatDoor
open Go.RowKit Fo

theorem eight_in {w : World} {b : Nat} {t : TypeId} {v0 v1 v2 v3 v4 v5 v6 v7 : Value} (h : w.heap[b]? = some (.cells #[v0, v1, v2, v3, v4, v5, v6, v7] t (0, 0))) :
    w.cell? ⟨b, 0, none⟩ = some v0 ∧ w.cell? ⟨b, 1, none⟩ = some v1 ∧ w.cell? ⟨b, 2, none⟩ = some v2 ∧ w.cell? ⟨b, 3, none⟩ = some v3 ∧ w.cell? ⟨b, 4, none⟩ = some v4 ∧ w.cell? ⟨b, 5, none⟩ = some v5 ∧ w.cell? ⟨b, 6, none⟩ = some v6 ∧ w.cell? ⟨b, 7, none⟩ = some v7 := by
  simp [World.cell?, h]
set_option maxRecDepth 100000 in
set_option maxHeartbeats 1000000 in
theorem bcheck_in (S : Nat → Prop) (d : Nat) (num gen k n g : Int) (s : L) (p1 p2 : Option Addr) (m1 c1 m2 c2 : Nat) (o : Ob) (w : World)
    (h1 : 1 ≤ num) (h2 : num ≤ 8191) (h3 : 0 ≤ gen) (h4 : gen ≤ 65535) (hk : k ≠ 8)
    (ho : ObjAt S d w [.int .i64 k, .int .i64 n, .int .i64 g, .string ⟨s.toArray⟩, .slice p1 m1 c1, .slice p2 m2 c2] o) (hsm : smallO d o) (hS : ∀ b, S b → b < w.heap.size) (hc : checkB 24 o = 0) :
    Calls Tryz.prog 129 #[.agg #[.int .i64 num, .int .i64 gen, .int .i64 k, .int .i64 n, .int .i64 g, .string ⟨s.toArray⟩, .slice p1 m1 c1, .slice p2 m2 c2]] w fun e w' => e = .returned (.int .i64 0) ∧ Below w.heap.size w w' := by
  have HC := Lib.hid (fun (W : World) (hW : Below w.heap.size w W) => vCheck_in S d W _ o (ho.kept (fun b h => hW.block b (hS b h)) d) hsm (fun b h => Nat.lt_of_lt_of_le (hS b h) hW.size))
  rw [hc] at HC
  have X := Lib.hid (heap_new_at w (.cells #[.int .i64 num, .int .i64 gen, .int .i64 k, .int .i64 n, .int .i64 g, .string ⟨s.toArray⟩, .slice p1 m1 c1, .slice p2 m2 c2] 50) _ rfl)
  have d1 : decide (num < 1) = false := decide_eq_false (by omega)
  have d2 : decide (8191 < num) = false := decide_eq_false (by omega)
  have d3 : decide (gen < 0) = false := decide_eq_false (by omega)
  have d4 : decide (65535 < gen) = false := decide_eq_false (by omega)
  have hbw0 : Below w.heap.size w (w.alloc (.cells #[.int .i64 num, .int .i64 gen, .int .i64 k, .int .i64 n, .int .i64 g, .string ⟨s.toArray⟩, .slice p1 m1 c1, .slice p2 m2 c2] 50)) := (Below.refl _ w).alloc (Nat.le_refl _) _
  clear h1 h2 h3 h4 ho hsm hS hc
  go_enter Tryz.func129, Tryz.ntmps129
  go_wp2_with fail
  refine (HC.out _ hbw0).mono ?_
  rintro e w1 ⟨rfl, hb1⟩
  obtain ⟨z0, z1, z2, z3, z4, z5, z6, z7⟩ := eight_in ((hb1.block _ (by simp)).trans X.out)
  have hb01 := hbw0.trans (hb1.mono hbw0.size)
  go_wp2
  go_ret
  exact ⟨rfl, hb01⟩
end Go.Proofs.YtfgdhcemidlnfaaGreatDoor
/- The walks of body.caught and Text's deferred closure where nothing was refused; body.must at items. -/
namespace Go.Proofs.YtfgdhcemidlnfaaGreatDoor
open Go.RowKit Fo

theorem bcaught_nil (p : Addr) (w : World) : Calls Tryz.prog 127 #[.nilIface, .pointer (some p)] w fun e w' => e = .returned (.tuple #[]) ∧ w' = w := by
  go_enter Tryz.func127, Tryz.ntmps127
  go_wp2
  go_end0
  exact ⟨rfl, rfl⟩
set_option maxRecDepth 100000 in
set_option maxHeartbeats 400000 in
theorem btext1_idle (b b2 : Nat) (w : World) (hc : w.cell? ⟨b, 0, none⟩ = some (.int .i64 0)) :
    CallsD Tryz.prog 126 #[.pointer (some ⟨b, 0, none⟩), .pointer (some ⟨b2, 0, none⟩)] .returning w fun e u' w' => e = .returned (.tuple #[]) ∧ u' = .returning ∧ w' = w := by
  refine callsD_of_wpS Tryz.func126 rfl fun c₀ cs hu => ?_
  simp only [Tryz.ntmps126, List.size_toArray, List.length_cons, List.length_nil, Nat.reduceAdd, Nat.reduceSub, Array.replicate_succ, Array.replicate_zero, List.push_toArray, List.append_toArray, List.nil_append, List.cons_append]
  apply wpS_seq
  apply wpS_region
  simp [wpOpsS, go_sem, recoverD, hu, Tryz.ntmps126, Exit.thenS]
  refine (bcaught_nil _ _).mono ?_
  rintro e w' ⟨rfl, rfl⟩
  refine wpS_of_wp ?_
  go_wp2
  cases c₀
  simp_all [bodyPostS, results, Tryz.results126]
set_option maxRecDepth 100000 in
set_option maxHeartbeats 1000000 in
theorem musti_yes (num gen k n g : Int) (s : L) (p1 p2 : Option Addr) (n1 c1 n2 c2 : Nat) (w : World) :
    Calls Tryz.prog 128 #[.agg #[.int .i64 num, .int .i64 gen, .int .i64 k, .int .i64 n, .int .i64 g, .string ⟨s.toArray⟩, .slice p1 n1 c1, .slice p2 n2 c2], .int .i64 0] w fun e w' => (∃ v, e = .returned v) ∧ Below w.heap.size w w' := by
  have HN := Lib.hid (fun W => need_yes 0 W)
  go_enter Tryz.func128, Tryz.ntmps128
  go_wp2_with fail
  refine (HN.out _).mono ?_
  rintro e w1 ⟨rfl, rfl⟩
  go_wp2
  refine bodyPost_ret (v := .agg #[.int .i64 num, .int .i64 gen, .int .i64 k, .int .i64 n, .int .i64 g, .string ⟨s.toArray⟩, .slice p1 n1 c1, .slice p2 n2 c2]) ?_ rfl ⟨⟨_, rfl⟩, (by repeat' (first | (with_reducible first | exact Below.refl _ _ | refine Below.drew ?_ | refine belowDrewN ?_ _ | refine belowIter ?_ ?_ _ _ | refine Below.setCell ?_ ?_ _ | refine Below.alloc ?_ ?_ _ | refine bT hb4 ?_ ?_ | refine bT hb3 ?_ ?_ | refine bT hb2 ?_ ?_ | refine bT hb1 ?_ ?_ | refine bT hbr ?_ ?_ | refine bT hb ?_ ?_) | (simp; done) | (simp; omega) | omega))⟩
  simp [results, Tryz.results128, go_sem]
end Go.Proofs.YtfgdhcemidlnfaaGreatDoor
/- The dictionary of a stream as it is written: its length set. -/
namespace Go.Proofs.YtfgdhcemidlnfaaGreatDoor
open Go.RowKit Fo

theorem keys_few {n : Nat} {o : Ob} (hk : ChkOk n o) : o.keys.length ≤ 8192 := by
  have hu := hk.uses
  by_cases h79 : o.kind = 7 ∨ o.kind = 9
  · have := ((keysB_iff o h79).1 hk.keys).len
    have := hk.many
    omega
  · have he : o.keys = [] := by
      rw [← usesP_eq] at hu
      unfold usesP at hu
      obtain ⟨⟨un, ug, us, uk, ud, ok⟩, hT⟩ : ∃ u, usedV o.kind = u := ⟨_, rfl⟩
      have huk := used_keys hT
      rw [hT] at hu
      rw [decide_eq_false h79] at huk
      subst huk
      simp at hu
      simp_all
    rw [he]; decide
theorem okO_tame : ∀ (d : Nat) (o : Ob), okO d o → tameO d o
  | 0, _, h => h.elim
  | d + 1, o, h => ⟨keys_few ((checkB_iff d o).1 (okO_check (d + 1) o h)), by have := h.2.2.2.2.1; omega, fun x hx => okO_tame d x (h.2.2.2.2.2.2 x hx)⟩
theorem int_at (S : Nat → Prop) (d : Nat) (w : World) (n : Int) : ObjAt S (d + 1) w [.int .i64 2, .int .i64 n, .int .i64 0, .string ⟨#[]⟩, .slice none 0 0, .slice none 0 0] (.int n) :=
  ⟨_, _, rfl, .inl ⟨rfl, _, _, rfl⟩, .inl ⟨rfl, _, _, rfl⟩⟩
theorem dict_at {S : Nat → Prop} {d : Nat} {w : World} {o : Ob} {kv dv : Value} (h : ObjAt S d w (objCells o.kind o.n o.g o.s kv dv) o) : ObjAt S d w (objCells 7 0 0 [] kv dv) (.mk 7 0 0 [] o.keys o.kids) := by
  cases d with
  | zero => exact h.elim
  | succ d =>
    obtain ⟨kv', dv', e, hK, hR⟩ := h
    unfold objCells at e
    simp only [List.cons.injEq, and_true, true_and] at e
    obtain ⟨rfl, rfl⟩ := e
    exact ⟨_, _, rfl, hK, hR⟩
/-- Set of a stream's length. -/
theorem setL_in (S : Nat → Prop) (d : Nat) (w : World) (o : Ob) (p1 p2 : Option Addr) (n1 c1 n2 c2 : Nat) (h : ObjAt S d w (objCells o.kind o.n o.g o.s (.slice p1 n1 c1) (.slice p2 n2 c2)) o) (h9 : o.kind = 9) (hc : checkB 24 o = 0) (hcL : checkB 24 (lenO o) = 0) (hS : ∀ b, S b → b < w.heap.size) :
    Calls Tryz.prog 48 #[.agg #[.int .i64 7, .int .i64 0, .int .i64 0, .string ⟨#[]⟩, .slice p1 n1 c1, .slice p2 n2 c2], .string ⟨#[76, 101, 110, 103, 116, 104]⟩, .agg #[.int .i64 2, .int .i64 (o.s.length : Nat), .int .i64 0, .string ⟨#[]⟩, .slice none 0 0, .slice none 0 0]] w (SetOut 24 w (lenO o)) := by
  have hd := dict_chk hc h9
  have hok := okO_of_check hd (show (7 : Int) ≠ 9 by decide)
  have hokL := okO_of_check hcL (by rw [lenO_kind]; decide)
  obtain ⟨hno, hlen, _, _⟩ := lenO_drop hc h9
  have := vSet_in S 23 w _ _ (.mk 7 0 0 [] o.keys o.kids) (.int o.s.length) wLength (obj_at_ok 24 d (dict_at h) hok) (int_at S 22 w _) hS (.inl rfl) hd hcL hno (show (2 : Int) ≠ 0 by decide) (okO_small _ _ hok) (okO_small _ _ hokL) (okO_tame _ _ hokL) (((checkB_iff 23 _).1 hd).many)
  exact this
end Go.Proofs.YtfgdhcemidlnfaaGreatDoor
