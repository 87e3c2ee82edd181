/- Parts of the proof: TrR. -/
import Derived.Test.YtinafodpgjbedaaGreatDoorPcj
import Derived.Test.YtinafodpgjbedaaGreatDoorPch
import Derived.Deep.AppendLies
set_option linter.all false
set_option maxRecDepth 100000
set_option maxHeartbeats 8000000
namespace Go.Proofs.YtinafodpgjbedaaGreatDoor
open Go.RowKit Fo
structure TrI (w wr : World) (B : Nat) (kv lv : Value) (bx : Array Value) : Prop where
 below : Below w.heap.size w wr
 size : B ≤ wr.heap.size
 box : wr.heap[w.heap.size]? = some (.cells bx 36 (0,0))
 res : wr.heap[w.heap.size + 1]? = some (.cells #[.int .i64 0,.int .i64 0,.int .i64 0,.string ⟨#[]⟩,.slice none 0 0,.slice none 0 0] 36 (0,0))
 out : wr.heap[w.heap.size + 2]? = some (.cells #[.int .i64 7,.int .i64 0,.int .i64 0,.string ⟨#[]⟩,kv,lv] 36 (0,0))
theorem TrI.step {w wr w' : World} {B : Nat} {kv lv : Value} {bx : Array Value} (h : TrI w wr B kv lv bx) (hb : Below B wr w') (hB : w.heap.size + 3 ≤ B) : TrI w w' B kv lv bx :=
 ⟨h.below.trans (hb.mono (by omega)),Nat.le_trans h.size hb.size,(hb.block _ (by omega)).trans h.box,(hb.block _ (by omega)).trans h.res,(hb.block _ (by omega)).trans h.out⟩
theorem TrI.keys {w wr : World} {B : Nat} {kv lv v : Value} {bx : Array Value} (h : TrI w wr B kv lv bx) : TrI w (wr.setCell ⟨w.heap.size + 2,4,none⟩ v) B v lv bx :=
 ⟨h.below.setCell (p:=⟨w.heap.size + 2,4,none⟩) (by show w.heap.size ≤ w.heap.size + 2;omega) _,by have:=h.size;simpa [World.setCell] using this,(Below.heap_setCell _ _ _ _ (by show w.heap.size ≠ w.heap.size + 2;omega)).trans h.box,(Below.heap_setCell _ _ _ _ (by show w.heap.size + 1 ≠ w.heap.size + 2;omega)).trans h.res,by rw [set_any h.out];rfl⟩
theorem TrI.kids {w wr : World} {B : Nat} {kv lv v : Value} {bx : Array Value} (h : TrI w wr B kv lv bx) : TrI w (wr.setCell ⟨w.heap.size + 2,5,none⟩ v) B kv v bx :=
 ⟨h.below.setCell (p:=⟨w.heap.size + 2,5,none⟩) (by show w.heap.size ≤ w.heap.size + 2;omega) _,by have:=h.size;simpa [World.setCell] using this,(Below.heap_setCell _ _ _ _ (by show w.heap.size ≠ w.heap.size + 2;omega)).trans h.box,(Below.heap_setCell _ _ _ _ (by show w.heap.size + 1 ≠ w.heap.size + 2;omega)).trans h.res,by rw [set_any h.out];rfl⟩
end Go.Proofs.YtinafodpgjbedaaGreatDoor
