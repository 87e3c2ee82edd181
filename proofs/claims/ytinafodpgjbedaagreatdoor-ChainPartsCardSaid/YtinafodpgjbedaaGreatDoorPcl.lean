/- Parts of the proof: ChO FrC. -/
import Derived.Test.YtinafodpgjbedaaGreatDoorPcf
import Derived.Test.YtinafodpgjbedaaGreatDoorPck
import Derived.Test.YtinafodpgjbedaaGreatDoorRows
import Derived.Deep.Slices
import Derived.ChangeArms
import Derived.ProofKit
import Derived.SizedLaws
import Derived.Test.YtinafodpgjbedaaGreatDoorPcb
import Derived.OpenShut
import Derived.Deep.DeepHandedRow
import Derived.Below
import Derived.ChangeSame
import Derived.ShutString
import Derived.ChangeMaps5
import Derived.LaidMore
set_option linter.all false
set_option maxRecDepth 100000
set_option maxHeartbeats 8000000
namespace Go.Proofs.YtinafodpgjbedaaGreatDoor
open Go.RowKit Fo Go.ChangeShapes
theorem smallO_up : ∀ (d : Nat) (o : Ob),smallO d o → smallO (d + 1) o
 | 0,_,h => h.elim
 | d + 1,o,h => ⟨h.1,h.2.1,h.2.2.1,h.2.2.2.1,fun k hk => smallO_up d k (h.2.2.2.2 k hk)⟩
def WOk {H : Type} (t : TypeId) (d : DataW H) : Prop:=∀ n ∈ d.weights Tryz.prog t,n ≤ reachBytes
theorem wok_each {H : Type} {ts : List TypeId} {ds : List (DataW H)} (h : ∀ n ∈ DataW.weightsEach Tryz.prog ts ds,n ≤ reachBytes) {j : Nat} {t : TypeId} {d : DataW H} (ht : ts[j]? = some t) (hd : ds[j]? = some d) : WOk t d :=
 fun n hn => h n (DataW.weights_mem_each ht hd n hn)
theorem wok_all {H : Type} {e : TypeId} : ∀ {ds : List (DataW H)},(∀ n ∈ DataW.weightsAll Tryz.prog e ds,n ≤ reachBytes) → ∀ (j : Nat) (d : DataW H),ds[j]? = some d → WOk e d
 | [],_,j,d,hd => by simp at hd
 | d0 :: ds,h,0,d,hd => by
   simp only [List.getElem?_cons_zero,Option.some.injEq] at hd
   subst hd
   exact fun n hn => h n (by simp only [DataW.weightsAll,List.mem_append];exact .inl hn)
 | d0 :: ds,h,j + 1,d,hd => wok_all (ds:=ds) (fun n hn => h n (by simp only [DataW.weightsAll,List.mem_append];exact .inr hn)) j d (by simpa using hd)
theorem wok_slice {H : Type} {t e : TypeId} {elems spare : List (DataW H)} (hu : Tryz.prog.underlying t = some (.slice e)) (h : WOk t (.slice elems spare)) :
   (elems.length + spare.length) * Tryz.prog.bytesOf e ≤ reachBytes ∧ ∀ (j : Nat) (d : DataW H),elems[j]? = some d → WOk e d:=by
 unfold WOk at h
 simp only [DataW.weights,hu,List.mem_cons,List.mem_append] at h
 exact ⟨h _ (.inl rfl),wok_all fun n hn => h n (.inr (.inl hn))⟩
theorem wok_str {H : Type} {t : TypeId} {s : List UInt8} (h : WOk (H:=H) t (.lit (.string s))) : s.length ≤ reachBytes:=by
 unfold WOk at h
 exact h _ (by simp [DataW.weights])
theorem wok_struct {H : Type} {t : TypeId} {fs : Array Field} {ds : List (DataW H)} (hu : Tryz.prog.underlying t = some (.struct fs)) (h : WOk t (.agg ds)) : ∀ n ∈ DataW.weightsEach Tryz.prog (fs.toList.map (·.type)) ds,n ≤ reachBytes:=by
 unfold WOk at h
 simpa only [DataW.weights,hu] using h
theorem reach_lt : reachBytes ≤ 140737488355328:=by decide
theorem open_objW {H : Type} {enc : TypeId × Value → H} {W : World} {sp : Nat → Bool} {hd : Bool} : ∀ (fuel : Nat) (cs : List Value) (x : DataW H × List MemPlace),
   DataW.trod enc Tryz.prog W 0 sp hd fuel 36 cs = some x → ∃ o : Ob,ObjAt (fun b => b < W.heap.size) fuel W cs o ∧ (WOk 36 x.1 → smallO fuel o):=by
 intro fuel
 induction fuel using Nat.strongRecOn with
 | _ fuel ih =>
   intro cs x h
   obtain ⟨xs,n,rfl,rfl,hl,hlen,hf⟩:=DataW.trod_struct Tryz.underlying36 h
   have z1 : Tryz.prog.cellsOf 36 = 6:=by kernel_rfl
   have z2 : Tryz.prog.cellsOf 3 = 1:=by kernel_rfl
   have z3 : Tryz.prog.cellsOf 2 = 1:=by kernel_rfl
   have z4 : Tryz.prog.cellsOf 9 = 1:=by kernel_rfl
   have z5 : Tryz.prog.cellsOf 33 = 1:=by kernel_rfl
   have z6 : Tryz.prog.cellsOf 34 = 1:=by kernel_rfl
   have y4 : Tryz.prog.bytesOf 9 = 16:=by kernel_rfl
   have y6 : Tryz.prog.bytesOf 36 = 88:=by kernel_rfl
   have hrl:=reach_lt
   rw [z1] at hl
   match cs,hl with
   | [c0,c1,c2,c3,c4,c5],_ =>
     match xs,hlen with
     | [x0,x1,x2,x3,x4,x5],_ =>
       have f0:=hf 0 _ rfl
       have f1:=hf 1 _ rfl
       have f2:=hf 2 _ rfl
       have f3:=hf 3 _ rfl
       have f4:=hf 4 _ rfl
       have f5:=hf 5 _ rfl
       simp only [z2,z3,z4,z5,z6,List.drop_zero,List.drop_succ_cons,List.take_succ_cons,List.take_zero,List.getElem?_cons_zero,List.getElem?_cons_succ] at f0 f1 f2 f3 f4 f5
       obtain ⟨k,e0,_⟩:=DataW.trod_int Tryz.underlying3 f0
       obtain ⟨nn,e1,_⟩:=DataW.trod_int Tryz.underlying2 f1
       obtain ⟨g,e2,_⟩:=DataW.trod_int Tryz.underlying3 f2
       obtain ⟨s,e3,q3⟩:=DataW.trod_string Tryz.underlying9 f3
       cases e0
       cases e1
       cases e2
       cases e3
       have HK : ∃ ks : List L,KeysAt (fun b => b < W.heap.size) W c4 ks ∧ (WOk 33 x4.1 → ks.length ≤ 140737488355328 ∧ ∀ x ∈ ks,x.length ≤ 140737488355328):=by
         rcases DataW.trod_slice Tryz.underlying33 f4 with ⟨hc,_⟩ | ⟨a,len,cap,elems,rest,m,rfl,hc,hxe,_,_,_,hel,hx,_⟩
         · cases hc;exact ⟨[],.inl ⟨rfl,_,_,rfl⟩,fun _ => ⟨by simp,by simp⟩⟩
         · cases hc
           rw [z4] at hx
           obtain ⟨l,hl,hp⟩:=list_of_each (p:=fun i (y : L) => W.cell? (a.add i) = some (.string ⟨y.toArray⟩) ∧ ∀ z,elems[i]? = some z → z.1 = .lit (.string y)) len (fun i hi => by
             have h1:=hx i hi
             rw [Nat.mul_one,List.getElem?_eq_getElem (by omega)] at h1
             obtain ⟨cs',h2,h3⟩:=Option.bind_eq_some_iff.1 h1
             obtain ⟨_,hlen',hcell⟩:=World.cells?_some h2
             obtain ⟨y,hy,hyz⟩:=DataW.trod_string Tryz.underlying9 h3
             subst hy
             have:=hcell 0 (by omega)
             refine ⟨y.data.toList,?_,fun z hz => ?_⟩
             · simpa [Addr.add] using this
             · rw [List.getElem?_eq_getElem (by omega)] at hz
               cases hz
               rw [hyz.1])
           have hbk : WOk 33 x4.1 → l.length ≤ 140737488355328 ∧ ∀ x ∈ l,x.length ≤ 140737488355328:=fun hw => by
             rw [hxe] at hw
             obtain ⟨w1,w2⟩:=wok_slice Tryz.underlying33 hw
             rw [y4,List.length_map] at w1
             refine ⟨by omega,fun x hxm => ?_⟩
             obtain ⟨i,hi,rfl⟩:=List.mem_iff_getElem.1 hxm
             have he : elems[i]? = some elems[i]:=List.getElem?_eq_getElem (by omega)
             have:=wok_str (t:=9) (by have h:=w2 i _ (by rw [List.getElem?_map,he];rfl);dsimp only at h;rw [(hp i hi).2 _ he] at h;exact h)
             omega
           by_cases h0 : len = 0
           · subst h0;exact ⟨[],.inl ⟨rfl,_,_,rfl⟩,fun _ => ⟨by simp,by simp⟩⟩
           · obtain ⟨b,o,spot⟩:=a
             have h00:=(hp 0 (by omega)).1
             have hspot : spot = none:=by simpa [Addr.add] using World.cell?_spot h00
             subst hspot
             refine ⟨l,.inr ⟨b,o,cap,by rw [hl],cells_lt (by simpa [Addr.add] using h00),fun i hi => ?_⟩,hbk⟩
             have:=(hp i hi).1
             rw [add_none] at this;exact this
       have HD : (∃ p c, c5 = .slice p 0 c) ∨ ∃ (b off c : Nat) (os : List Ob), (WOk 34 x5.1 → os.length ≤ 140737488355328 ∧ ∀ o ∈ os, smallO n o) ∧ c5 = .slice (some ⟨b, off, none⟩) os.length c ∧ b < W.heap.size ∧ os ≠ [] ∧
           ∀ i (h : i < os.length),∃ ks : List Value,ks.length = 6 ∧ (∀ j (hj : j < ks.length),W.cell? ⟨b,off + 6 * i + j,none⟩ = some ks[j]) ∧ ObjAt (fun b => b < W.heap.size) n W ks os[i]:=by
         rcases DataW.trod_slice Tryz.underlying34 f5 with ⟨hc,_⟩ | ⟨a,len,cap,elems,rest,m,rfl,hc,hxe,_,_,_,hel,hx,_⟩
         · cases hc;exact .inl ⟨_,_,rfl⟩
         · cases hc
           rw [z1] at hx
           obtain ⟨l,hl,hp⟩:=list_of_each (p:=fun i (o : Ob) => ∃ ks : List Value,ks.length = 6 ∧ (∀ j (hj : j < ks.length),W.cell? ((a.add (i * 6)).add j) = some ks[j]) ∧ ObjAt (fun b => b < W.heap.size) (m + 1) W ks o ∧ ∀ z,elems[i]? = some z → WOk 36 z.1 → smallO (m + 1) o) len (fun i hi => by
             have h1:=hx i hi
             rw [List.getElem?_eq_getElem (by omega)] at h1
             obtain ⟨cs',h2,h3⟩:=Option.bind_eq_some_iff.1 h1
             obtain ⟨_,hlen',hcell⟩:=World.cells?_some h2
             obtain ⟨o,ho,hbo⟩:=ih m (by omega) cs' _ h3
             refine ⟨o,cs',hlen',fun j hj => ?_,ObjAt.up m ho,fun z hz hw => ?_⟩
             · rw [hcell j (by omega)];exact List.getElem?_eq_getElem hj
             · rw [List.getElem?_eq_getElem (by omega)] at hz
               cases hz
               exact smallO_up m o (hbo hw))
           have hbk : WOk 34 x5.1 → l.length ≤ 140737488355328 ∧ ∀ o ∈ l,smallO (m + 1) o:=fun hw => by
             rw [hxe] at hw
             obtain ⟨w1,w2⟩:=wok_slice Tryz.underlying34 hw
             rw [y6,List.length_map] at w1
             refine ⟨by omega,fun x hxm => ?_⟩
             obtain ⟨i,hi,rfl⟩:=List.mem_iff_getElem.1 hxm
             have he : elems[i]? = some elems[i]:=List.getElem?_eq_getElem (by omega)
             obtain ⟨_,_,_,_,g⟩:=hp i hi
             exact g _ he (w2 i _ (by rw [List.getElem?_map,he];rfl))
           by_cases h0 : len = 0
           · subst h0;exact .inl ⟨_,_,rfl⟩
           · obtain ⟨b,o,spot⟩:=a
             obtain ⟨ks,hk6,hkc,_,_⟩:=hp 0 (by omega)
             have h00:=hkc 0 (by omega)
             have hspot : spot = none:=by simpa [Addr.add] using World.cell?_spot h00
             subst hspot
             refine .inr ⟨b,o,cap,l,hbk,by rw [hl],cells_lt (by simpa [Addr.add] using h00),by intro hh;rw [hh] at hl;simp at hl;omega,fun i hi => ?_⟩
             obtain ⟨ks,g1,g2,g3,_⟩:=hp i hi
             refine ⟨ks,g1,fun j hj => ?_,g3⟩
             have:=g2 j hj
             rw [add_none,add_none] at this
             rw [Nat.mul_comm 6 i]
             exact this
       obtain ⟨ks,hks,hkb⟩:=HK
       have hws : ∀ (hw : WOk 36 (.agg ([x0,x1,x2,x3,x4,x5].map (·.1)))),s.data.toList.length ≤ 140737488355328 ∧ WOk 33 x4.1 ∧ WOk 34 x5.1:=fun hw => by
         have hw:=wok_struct Tryz.underlying36 hw
         refine ⟨?_,wok_each hw (j:=4) rfl rfl,wok_each hw (j:=5) rfl rfl⟩
         have h3 : WOk 9 x3.1:=wok_each hw (j:=3) rfl rfl
         rw [q3.1] at h3
         have:=wok_str h3
         omega
       rcases HD with ⟨p,c,rfl⟩ | ⟨b,off,c,os,hob,rfl,hb,hne,hos⟩
       · refine ⟨.mk k nn g s.data.toList ks [],⟨c4,.slice p 0 c,by simp [objCells,Ob.kind,Ob.n,Ob.g,Ob.s],hks,.inl ⟨rfl,_,_,rfl⟩⟩,fun hw => ?_⟩
         obtain ⟨w1,w2,w3⟩:=hws hw
         exact ⟨(hkb w2).1,Nat.zero_le _,w1,(hkb w2).2,fun k hk => by cases hk⟩
       · refine ⟨.mk k nn g s.data.toList ks os,⟨c4,_,by simp [objCells,Ob.kind,Ob.n,Ob.g,Ob.s];rfl,hks,.inr ⟨b,off,c,rfl,hb,hos⟩⟩,fun hw => ?_⟩
         obtain ⟨w1,w2,w3⟩:=hws hw
         exact ⟨(hkb w2).1,(hob w3).1,w1,(hkb w2).2,fun k hk => (hob w3).2 k hk⟩
theorem open_slot {H : Type} {enc : TypeId × Value → H} {W : World} {sp : Nat → Bool} {hd : Bool} {fuel : Nat} {cs : List Value} {x : DataW H × List MemPlace} (h : DataW.trod enc Tryz.prog W 0 sp hd fuel 28 cs = some x) :
   ∃ y : Sl,cs = slE.cells y ∧ (Lit.int .i64 y.num).wf = true:=by
 obtain ⟨xs,n,rfl,rfl,hl,hlen,hf⟩:=DataW.trod_struct Tryz.underlying28 h
 have z1 : Tryz.prog.cellsOf 28 = 4:=by kernel_rfl
 have z2 : Tryz.prog.cellsOf 3 = 1:=by kernel_rfl
 rw [z1] at hl
 match cs,hl with
 | [c0,c1,c2,c3],_ =>
   match xs,hlen with
   | [x0,x1,x2,x3],_ =>
     have f0:=hf 0 _ rfl
     have f1:=hf 1 _ rfl
     have f2:=hf 2 _ rfl
     have f3:=hf 3 _ rfl
     simp only [z2,List.drop_zero,List.drop_succ_cons,List.take_succ_cons,List.take_zero,List.getElem?_cons_zero,List.getElem?_cons_succ] at f0 f1 f2 f3
     obtain ⟨k0,e0,q0⟩:=DataW.trod_int Tryz.underlying3 f0
     obtain ⟨k1,e1,_⟩:=DataW.trod_int Tryz.underlying3 f1
     obtain ⟨k2,e2,_⟩:=DataW.trod_int Tryz.underlying3 f2
     obtain ⟨k3,e3,_⟩:=DataW.trod_int Tryz.underlying3 f3
     cases e0
     cases e1
     cases e2
     cases e3
     exact ⟨⟨k0,k1,k2,k3⟩,rfl,q0.2⟩
theorem open_row {α : Type} (E : Enc α) (hk0 : 0 < E.k) {q : α → Prop} {W : World} {a : Addr} {n c : Nat} (h : ∀ i, i < n → ∃ y : α, (∀ j u, (E.cells y)[j]? = some u → W.cell? ((a.add (i * E.k)).add j) = some u) ∧ q y) :
   ∃ l : List α,l.length = n ∧ RArg E W (.slice (some a) n c) l ∧ ∀ x ∈ l,q x:=by
 obtain ⟨l,hl,hp2⟩:=list_of_each n h
 have hp:=fun i hi => (hp2 i hi).1
 refine ⟨l,hl,⟨some a,c,by rw [hl],fun k hk => ?_⟩,fun x hx => by obtain ⟨i,hi,rfl⟩:=List.mem_iff_getElem.1 hx;exact (hp2 i hi).2⟩
 obtain ⟨b,o,spot⟩:=a
 have h0:=hp k hk 0 _ (List.getElem?_eq_getElem (by rw [E.len];exact hk0))
 have h00:=hp 0 (by omega) 0 _ (List.getElem?_eq_getElem (by rw [E.len];exact hk0))
 have hspot : spot = none:=by
   rw [Nat.zero_mul] at h00
   simpa [Addr.add] using World.cell?_spot h00
 subst hspot
 rw [add_none,add_none] at h0
 refine ⟨b,o,rfl,cells_lt h0,fun i u hu => ?_⟩
 have:=hp k hk i u hu
 rw [add_none,add_none] at this
 exact this
theorem open_slots {H : Type} {enc : TypeId × Value → H} {W : World} {sp : Nat → Bool} {hd : Bool} {fuel : Nat} {cs : List Value} {x : DataW H × List MemPlace} (h : DataW.trod enc Tryz.prog W 0 sp hd fuel 25 cs = some x) :
   ∃ p n c l,cs = [.slice p n c] ∧ n = l.length ∧ n ≤ c ∧ RArg slE W (.slice p n c) l ∧ ∀ x ∈ l,(Lit.int .i64 x.num).wf = true:=by
 have z1 : Tryz.prog.cellsOf 28 = 4:=by kernel_rfl
 rcases DataW.trod_slice Tryz.underlying25 h with ⟨hc,_⟩ | ⟨a,len,cap,elems,rest,m,rfl,hc,_,_,hcap,hmax,hel,hx,_⟩
 · exact ⟨none,0,0,[],hc,rfl,Nat.le_refl _,RArg.nil W,fun x hx => by cases hx⟩
 · rw [z1] at hx
   obtain ⟨l,hl,hR,hq⟩:=open_row slE (by decide) (q:=fun x => (Lit.int .i64 x.num).wf = true) (W:=W) (a:=a) (n:=len) (c:=cap) (fun i hi => by
     have h1:=hx i hi
     rw [List.getElem?_eq_getElem (by omega)] at h1
     obtain ⟨cs',h2,h3⟩:=Option.bind_eq_some_iff.1 h1
     obtain ⟨_,hlen',hcell⟩:=World.cells?_some h2
     obtain ⟨y,rfl,hwf⟩:=open_slot h3
     refine ⟨y,fun j u hu => ?_,hwf⟩
     have hj : j < 4:=(List.getElem?_eq_some_iff.1 hu).1
     exact (hcell j (by omega)).trans hu)
   exact ⟨some a,len,cap,l,hc,hl.symm,hcap,hR,hq⟩
theorem open_sec {H : Type} {enc : TypeId × Value → H} {W : World} {sp : Nat → Bool} {hd : Bool} (fuel : Nat) (cs : List Value) (x : DataW H × List MemPlace)
   (h : DataW.trod enc Tryz.prog W 0 sp hd fuel 40 cs = some x) : ∃ (y : SecV) (s : Sec),cs = encSec.cells y ∧ SecIs (fun b => b < W.heap.size) fuel W y s ∧ (∀ x ∈ s.slots,(Lit.int .i64 x.num).wf = true) ∧ (WOk 40 x.1 → smallO fuel s.trail):=by
 obtain ⟨xs,n,rfl,rfl,hl,hlen,hf⟩:=DataW.trod_struct Tryz.underlying40 h
 have z1 : Tryz.prog.cellsOf 40 = 11:=by kernel_rfl
 have z2 : Tryz.prog.cellsOf 3 = 1:=by kernel_rfl
 have z3 : Tryz.prog.cellsOf 36 = 6:=by kernel_rfl
 have z4 : Tryz.prog.cellsOf 25 = 1:=by kernel_rfl
 rw [z1] at hl
 match cs,hl with
 | [c0,c1,c2,c3,c4,c5,c6,c7,c8,c9,c10],_ =>
   match xs,hlen with
   | [x0,x1,x2,x3,x4,x5],_ =>
     have f0:=hf 0 _ rfl
     have f1:=hf 1 _ rfl
     have f2:=hf 2 _ rfl
     have f3:=hf 3 _ rfl
     have f4:=hf 4 _ rfl
     have f5:=hf 5 _ rfl
     simp only [z2,z3,z4,List.drop_zero,List.drop_succ_cons,List.take_succ_cons,List.take_zero,List.getElem?_cons_zero,List.getElem?_cons_succ] at f0 f1 f2 f3 f4 f5
     obtain ⟨k0,e0,_⟩:=DataW.trod_int Tryz.underlying3 f0
     obtain ⟨p,m,c,l,e1,hn,hcap,hR,hq⟩:=open_slots f1
     replace f2 : DataW.trod enc Tryz.prog W 0 sp hd n 36 (List.take (Tryz.prog.cellsOf 36) (List.drop 2 [c0,c1,c2,c3,c4,c5,c6,c7,c8,c9,c10])) = some x2:=f2
     rw [z3] at f2
     obtain ⟨o,hO,hsm⟩:=open_objW _ _ _ f2
     simp only [List.drop_succ_cons,List.drop_zero,List.take_succ_cons,List.take_zero] at hO
     obtain ⟨k3,e3,_⟩:=DataW.trod_int Tryz.underlying3 f3
     obtain ⟨k4,e4,_⟩:=DataW.trod_int Tryz.underlying3 f4
     obtain ⟨k5,e5,_⟩:=DataW.trod_int Tryz.underlying3 f5
     cases e0
     cases e1
     cases e3
     cases e4
     cases e5
     obtain ⟨p1,n1,q1,p2,n2,q2,hcs⟩:=hO.shape
     unfold objCells at hcs
     simp only [List.cons.injEq,and_true] at hcs
     obtain ⟨rfl,rfl,rfl,rfl,rfl,rfl⟩:=hcs
     refine ⟨⟨k0,p,m,c,o.kind,o.n,o.g,⟨o.s.toArray⟩,p1,n1,q1,p2,n2,q2,k3,k4,k5⟩,⟨k0,l,o,k3,k4,k5⟩,rfl,⟨rfl,rfl,rfl,rfl,hn,hR,ObjAt.up _ hO⟩,hq,fun hw => ?_⟩
     have hw:=wok_struct Tryz.underlying40 hw
     exact smallO_up _ _ (hsm (wok_each hw (j:=2) rfl rfl))
theorem open_secs {H : Type} {enc : TypeId × Value → H} {W : World} {sp : Nat → Bool} {hd : Bool} {fuel : Nat} {cs : List Value} {x : DataW H × List MemPlace} (h : DataW.trod enc Tryz.prog W 0 sp hd fuel 22 cs = some x) :
   ∃ p n c vs l,cs = [.slice p n c] ∧ n = l.length ∧ n ≤ c ∧ c ≤ maxLen ∧ RArg encSec W (.slice p n c) vs ∧ SecsIs (fun b => b < W.heap.size) fuel W vs l ∧ (p = none → c = 0) ∧ (∀ s ∈ l,∀ x ∈ s.slots,(Lit.int .i64 x.num).wf = true) ∧ (WOk 22 x.1 → ∀ s ∈ l,smallO fuel s.trail):=by
 have z1 : Tryz.prog.cellsOf 40 = 11:=by kernel_rfl
 rcases DataW.trod_slice Tryz.underlying22 h with ⟨hc,_⟩ | ⟨a,len,cap,elems,rest,m,rfl,hc,hxe,_,hcap,hmax,hel,hx,_⟩
 · exact ⟨none,0,0,[],[],hc,rfl,Nat.le_refl _,Nat.zero_le _,RArg.nil W,⟨rfl,fun i v s h => by simp at h⟩,fun _ => rfl,(fun s hs => by cases hs),(fun _ s hs => by cases hs)⟩
 · rw [z1] at hx
   obtain ⟨l, hl, hp⟩ := list_of_each (p := fun i (y : SecV × Sec) => (∀ j u, (encSec.cells y.1)[j]? = some u → W.cell? ((a.add (i * encSec.k)).add j) = some u) ∧ SecIs (fun b => b < W.heap.size) (m + 1) W y.1 y.2 ∧ (∀ x ∈ y.2.slots, (Lit.int .i64 x.num).wf = true) ∧
       ∀ z,elems[i]? = some z → WOk 40 z.1 → smallO (m + 1) y.2.trail) len (fun i hi => by
     have h1:=hx i hi
     rw [List.getElem?_eq_getElem (by omega)] at h1
     obtain ⟨cs',h2,h3⟩:=Option.bind_eq_some_iff.1 h1
     obtain ⟨_,hlen',hcell⟩:=World.cells?_some h2
     obtain ⟨y,s,rfl,hs,hq,hw⟩:=open_sec _ _ _ h3
     refine ⟨(y,s),fun j u hu => ?_,⟨hs.at',hs.prev,hs.hyb,hs.own,hs.len,hs.slots,ObjAt.up _ hs.trail⟩,hq,fun z hz hwz => ?_⟩
     · have hj : j < 11:=(List.getElem?_eq_some_iff.1 hu).1
       exact (hcell j (by omega)).trans hu
     · rw [List.getElem?_eq_getElem (by omega)] at hz
       cases hz
       exact smallO_up _ _ (hw hwz))
   obtain ⟨vs,hvl,hR,_⟩:=open_row encSec (by decide) (q:=fun _ => True) (W:=W) (a:=a) (n:=len) (c:=cap) (fun i hi => ⟨(l[i]'(by omega)).1,(hp i (by omega)).1,trivial⟩)
   have hR2 : RArg encSec W (.slice (some a) len cap) (l.map (·.1)):=by
     refine ⟨some a,cap,by rw [List.length_map,hl],fun k hk => ?_⟩
     rw [List.length_map] at hk
     obtain ⟨p',c',e,hh⟩:=hR
     cases e
     obtain ⟨g,off,e1,e2,_⟩:=hh k (by omega)
     cases e1
     refine ⟨g,off,rfl,e2,fun i u hu => ?_⟩
     rw [List.getElem_map] at hu
     have:=(hp k hk).1 i u hu
     rw [add_none,add_none] at this
     exact this
   refine ⟨some a,len,cap,l.map (·.1),l.map (·.2),hc,by rw [List.length_map,hl],hcap,hmax,hR2,⟨by simp,fun i v s hv hs => ?_⟩,(fun e => by cases e),fun s hs => ?_,fun hw s hs => ?_⟩
   · rw [List.getElem?_map] at hv hs
     cases hi : l[i]? with
     | none => rw [hi] at hv;cases hv
     | some y =>
       rw [hi] at hv hs
       cases hv
       cases hs
       obtain ⟨hlt,rfl⟩:=List.getElem?_eq_some_iff.1 hi
       exact (hp i hlt).2.1
   · obtain ⟨y,hy,rfl⟩:=List.mem_map.1 hs
     obtain ⟨i,hi,rfl⟩:=List.mem_iff_getElem.1 hy
     exact (hp i hi).2.2.1
   · rw [hxe] at hw
     obtain ⟨_,w2⟩:=wok_slice Tryz.underlying22 hw
     obtain ⟨y,hy,rfl⟩:=List.mem_map.1 hs
     obtain ⟨i,hi,rfl⟩:=List.mem_iff_getElem.1 hy
     have he : elems[i]? = some elems[i]:=List.getElem?_eq_getElem (by omega)
     exact (hp i hi).2.2.2 _ he (w2 i _ (by rw [List.getElem?_map,he];rfl))
open Go.ChangeShapes Go.WideShapes Go.ChangeAt Go.RowKit
theorem ownK : ownKnob Tryz.prog.godebug = none:=by kernel_rfl
theorem maxW_of {W : World} (h : W.ShapedOpen Tryz.prog) : ∃ m,MaxW W m:=Tryz.laysM143.s1_3 W h
theorem post_below {H : Type} {enc : TypeId × Value → H} {P : Program} {f : Func} {s : ChangeSpec} {apart fresh handsOn again : Bool} {W W' : World} {args : Array Value} {v : Value} {ds gs : List (DataW H)} {before pa pv : List MemPlace}
   (hW : DataW.Whole enc P f.params.toList s.vars apart W args.toList ds gs before)
   (hres : ∀ (b : Nat) (sp : Nat → Bool) (hd : Bool),DataW.TrodAll enc P W' b sp hd f.resultTypes.toList (v.resultList f.resultTypes.size) (s.fn H (ds ++ gs)).results [])
   (hargs : ∀ sp : Nat → Bool,(∀ p ∈ before,sp p.block = true) → DataW.TrodAll enc P W' 0 sp true f.params.toList args.toList (s.fn H (ds ++ gs)).args pa)
   (hvars : ∀ sp : Nat → Bool,(∀ p ∈ before,sp p.block = true) → DataW.TrodVars enc P W' sp s.vars (s.fn H (ds ++ gs)).vars pv)
   (hps : before = pa ++ pv) (hb : Below W.heap.size W W')
   (hok : ∀ (j : Nat) (t : TypeId) (r : Value),f.resultTypes[j]? = some t → (v.resultList f.resultTypes.size)[j]? = some r → Value.okWide P W' .any 0 t r) :
   s.post enc P f apart fresh handsOn again W args v W':=by
 have hlt : ∀ p ∈ before,p.block < W.heap.size:=fun p hp => hW.lt p hp
 have hold : ∀ p ∈ before,(fun b => decide (b < W.heap.size)) p.block = true:=fun p hp => by simpa using hlt p hp
 refine ⟨ds,gs,before,[],pa,pv,hW,hres _ _ _,hargs _ hold,hvars _ hold,World.keptBut_mono (fun p hp => ⟨hp,?_⟩) (hb.frame (· ∈ before)),fun _ => ?_⟩
 · rw [hps,List.mem_append] at hp
   exact Or.inr hp
 · obtain ⟨_,_,_,_,_,hz,hn⟩:=hW
   refine ⟨hok,_,_,([] ++ pa) ++ pv,⟨[] ++ pa,pv,trodAll_append (hargs _ (fun _ _ => rfl)) (hres _ _ _),hvars _ (fun _ _ => rfl),rfl,?_,?_⟩,?_⟩
   · intro b off hp
     have hin : MemPlace.cell b off ∈ before:=by rw [hps];simpa using hp
     rw [hb.frozen (hlt _ hin)]
     exact hz b off hin
   · intro ha
     have:=hn ha
     rw [hps] at this
     simpa using this
   · intro p hp _
     rw [hps]
     simpa using hp
def firstCells : Array Value:=(Go.Pinned.utf8FirstZ.map fun (n : Nat) => Value.int .u8 n).toArray
def rangeCells : Array Value:=(([128,191,160,191,128,159,144,191,128,143] ++ List.replicate 22 0).map fun (n : Nat) => Value.int .u8 n).toArray
def layC (cs : Array Value) : Go.Obj → Go.Obj
 | .cells _ t frozen => .cells cs t frozen
 | o => o
def ordCells : Array Value:=(([16,17,18,0,8,7,9,6,10,5,11,4,12,3,13,2,14,1,15] : List Nat).map fun (n : Nat) => Value.int .i64 n).toArray
def powCells : Array Value:=(([52200625,614125,7225,85,1] : List Nat).map fun (n : Nat) => Value.int .u64 n).toArray
def repEntries : Array MapEntry:=#[⟨.int .i64 16,.agg #[.int .i64 3,.int .i64 2],0⟩,⟨.int .i64 17,.agg #[.int .i64 3,.int .i64 3],1⟩,⟨.int .i64 18,.agg #[.int .i64 11,.int .i64 7],2⟩]
noncomputable def laidWorld (os : Os) : World :=
 let w0:=World.holding Tryz.prog os ⟨#[],#[],[]⟩
 { w0 with heap:=(((((w0.heap.modify 2 (layC firstCells)).modify 3 (layC rangeCells)).modify 4 (layC ordCells)).modify 0 (layC powCells)).modify 5 (layC #[.map (some w0.heap.size)])).push (.map repEntries 3) }
end Go.Proofs.YtinafodpgjbedaaGreatDoor
