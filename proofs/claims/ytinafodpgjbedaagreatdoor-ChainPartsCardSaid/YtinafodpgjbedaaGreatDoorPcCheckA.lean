/- Parts of the proof: CheckA. -/
import Derived.Test.YtinafodpgjbedaaGreatDoorPcf
set_option linter.all false
set_option maxRecDepth 100000
set_option maxHeartbeats 8000000
namespace Go.Proofs.YtinafodpgjbedaaGreatDoor
open Go.RowKit Fo
theorem ObjAt.form2 {S : Nat → Prop} {d : Nat} {w : World} {cs : List Value} {o : Ob} (h : ObjAt S d w cs o) : ∃ p1 c1 p2 c2,cs = objCells o.kind o.n o.g o.s (.slice p1 o.keys.length c1) (.slice p2 o.kids.length c2):=by
 cases d with
 | zero => exact h.elim
 | succ d =>
   obtain ⟨kv,dv,h1,h2,h3⟩:=h
   have a1 : ∃ p c,kv = .slice p o.keys.length c:=by
     rcases h2 with ⟨e,p,c,h⟩ | ⟨b,o,c,h,_⟩
     · exact ⟨_,_,by rw [e];exact h⟩
     · exact ⟨_,_,h⟩
   have a2 : ∃ p c,dv = .slice p o.kids.length c:=by
     rcases h3 with ⟨e,p,c,h⟩ | ⟨b,o,c,h,_⟩
     · exact ⟨_,_,by rw [e];exact h⟩
     · exact ⟨_,_,h⟩
   obtain ⟨p1,c1,rfl⟩:=a1
   obtain ⟨p2,c2,rfl⟩:=a2
   exact ⟨p1,c1,p2,c2,h1⟩
def fitsV (K N G : Int) : Bool :=
 if K = 1 then N == 0 || N == 1
 else if K = 2 then decide (-2147483647 ≤ N) && decide (N ≤ 2147483647)
 else if K = 3 then decide (-1073741824 ≤ N) && decide (N ≤ 1073741824)
 else if K = 8 then decide (1 ≤ N) && decide (N ≤ 8191) && decide (0 ≤ G) && decide (G ≤ 65535)
 else true
end Go.Proofs.YtinafodpgjbedaaGreatDoor
