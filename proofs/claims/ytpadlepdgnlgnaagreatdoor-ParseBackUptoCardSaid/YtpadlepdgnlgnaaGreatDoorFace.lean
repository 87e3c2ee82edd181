/- The deferred functions that recover: fix.face and parse.face. -/
import Derived.Test.YtpadlepdgnlgnaaGreatDoorWhole
import Derived.Recover
import Derived.Defers
set_option linter.all false
namespace Go.Proofs.YtpadlepdgnlgnaaGreatDoor
open Go.RowKit Fo

set_option maxRecDepth 100000 in
set_option maxHeartbeats 400000 in
theorem fface_idle (p q : Addr) (w : World) :
    CallsD Tryz.prog 110 #[.pointer (some p), .pointer (some q)] .returning w fun e u' w' => e = .returned (.tuple #[]) ∧ u' = .returning ∧ w' = w := by
  refine callsD_of_wpS Tryz.func110 rfl fun c₀ cs hu => ?_
  simp only [Tryz.ntmps110, List.size_toArray, List.length_cons, List.length_nil, Nat.reduceAdd, Nat.reduceSub, Array.replicate_succ, Array.replicate_zero, List.push_toArray, List.append_toArray, List.nil_append, List.cons_append]
  apply wpS_seq
  apply wpS_region
  simp [wpOpsS, go_sem, recoverD, hu, Tryz.ntmps110, Exit.thenS]
  refine wpS_of_wp ?_
  go_wp2
  cases c₀
  simp_all [bodyPostS, results, Tryz.results110]
set_option maxRecDepth 100000 in
set_option maxHeartbeats 400000 in
theorem fface_catch (p q : Addr) (x : Int) (older : List PanicEntry) (w : World) (v0 v1 : Int) (c0 : w.cell? p = some (.int .i64 v0)) (f0 : w.frozen? p = false) (c1 : w.cell? q = some (.int .i64 v1)) (f1 : w.frozen? q = false) (hne : p ≠ q) :
    CallsD Tryz.prog 110 #[.pointer (some p), .pointer (some q)] (.panicking ({ v := .iface 142 (.int .i64 x), recovered := false } :: older)) w fun e u' w' =>
      e = .returned (.tuple #[]) ∧ u' = .panicking ({ v := .iface 142 (.int .i64 x), recovered := true } :: older) ∧ w' = (w.setCell p (.int .i64 0)).setCell q (.int .i64 x) := by
  have hta : ∀ (x : Int) (w : World), (Instr.typeAssert (.iface 142 (.int .i64 x)) 20 142 true).run Tryz.prog w = .ok (.tuple #[.int .i64 x, .bool true]) w := fun _ _ => by kernel_rfl
  refine callsD_of_wpS Tryz.func110 rfl fun c₀ cs hu => ?_
  simp only [Tryz.ntmps110, List.size_toArray, List.length_cons, List.length_nil, Nat.reduceAdd, Nat.reduceSub, Array.replicate_succ, Array.replicate_zero, List.push_toArray, List.append_toArray, List.nil_append, List.cons_append]
  apply wpS_seq
  apply wpS_region
  simp [wpOpsS, go_sem, recoverD, hu, Tryz.ntmps110, Exit.thenS]
  refine wpS_of_wp ?_
  go_wp2
  cases c₀
  simp_all [bodyPostS, results, Tryz.results110]
set_option maxRecDepth 100000 in
set_option maxHeartbeats 400000 in
theorem pface_idle (q : Addr) (w : World) :
    CallsD Tryz.prog 35 #[.pointer (some q)] .returning w fun e u' w' => e = .returned (.tuple #[]) ∧ u' = .returning ∧ w' = w := by
  refine callsD_of_wpS Tryz.func35 rfl fun c₀ cs hu => ?_
  simp only [Tryz.ntmps35, List.size_toArray, List.length_cons, List.length_nil, Nat.reduceAdd, Nat.reduceSub, Array.replicate_succ, Array.replicate_zero, List.push_toArray, List.append_toArray, List.nil_append, List.cons_append]
  apply wpS_seq
  apply wpS_region
  simp [wpOpsS, go_sem, recoverD, hu, Tryz.ntmps35, Exit.thenS]
  refine wpS_of_wp ?_
  go_wp2
  cases c₀
  simp_all [bodyPostS, results, Tryz.results35]
set_option maxRecDepth 100000 in
set_option maxHeartbeats 400000 in
theorem pface_catch (q : Addr) (x : Int) (older : List PanicEntry) (w : World) (v1 : Int) (c1 : w.cell? q = some (.int .i64 v1)) (f1 : w.frozen? q = false) :
    CallsD Tryz.prog 35 #[.pointer (some q)] (.panicking ({ v := .iface 84 (.int .i64 x), recovered := false } :: older)) w fun e u' w' =>
      e = .returned (.tuple #[]) ∧ u' = .panicking ({ v := .iface 84 (.int .i64 x), recovered := true } :: older) ∧ w' = w.setCell q (.int .i64 x) := by
  have hta : ∀ (x : Int) (w : World), (Instr.typeAssert (.iface 84 (.int .i64 x)) 20 84 true).run Tryz.prog w = .ok (.tuple #[.int .i64 x, .bool true]) w := fun _ _ => by kernel_rfl
  refine callsD_of_wpS Tryz.func35 rfl fun c₀ cs hu => ?_
  simp only [Tryz.ntmps35, List.size_toArray, List.length_cons, List.length_nil, Nat.reduceAdd, Nat.reduceSub, Array.replicate_succ, Array.replicate_zero, List.push_toArray, List.append_toArray, List.nil_append, List.cons_append]
  apply wpS_seq
  apply wpS_region
  simp [wpOpsS, go_sem, recoverD, hu, Tryz.ntmps35, Exit.thenS]
  refine wpS_of_wp ?_
  go_wp2
  cases c₀
  simp_all [bodyPostS, results, Tryz.results35]
end Go.Proofs.YtpadlepdgnlgnaaGreatDoor
