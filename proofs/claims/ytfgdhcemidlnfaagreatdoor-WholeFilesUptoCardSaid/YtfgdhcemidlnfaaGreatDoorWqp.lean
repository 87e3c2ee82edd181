/- Parts of the proof: GOp DcC FrW. -/
import Derived.Test.YtfgdhcemidlnfaaGreatDoorWqb
import Derived.Test.YtfgdhcemidlnfaaGreatDoorWqa
import Derived.Test.YtfgdhcemidlnfaaGreatDoorWqd
import Derived.Test.YtfgdhcemidlnfaaGreatDoorRows
import Derived.Deep.Slices
import Derived.ChangeArms
import Derived.Test.YtfgdhcemidlnfaaGreatDoorWqc
import Derived.Test.YtfgdhcemidlnfaaGreatDoorWqh
import Derived.Test.YtfgdhcemidlnfaaGreatDoorWqo
import Derived.Test.YtfgdhcemidlnfaaGreatDoorWqe
import Derived.Lib.LaidU8
import Derived.ProofKit
import Derived.OpenShut
import Derived.Deep.DeepHandedRow
import Derived.Below
import Derived.ChangeSame
import Derived.ShutString
import Derived.ChangeMaps5
import Derived.SizedLaws
set_option linter.all false
set_option maxRecDepth 100000
set_option maxHeartbeats 8000000
namespace Go.Proofs.YtfgdhcemidlnfaaGreatDoor
open Go.RowKit Fo Go.ChangeShapes
theorem list_of_each {α : Type} {p : Nat → α → Prop} (n : Nat) (h : ∀ i,i < n → ∃ o,p i o) : ∃ l : List α,l.length = n ∧ ∀ i (hi : i < l.length),p i l[i]:=by
 induction n with
 | zero => exact ⟨[],rfl,fun i hi => absurd hi (by simp)⟩
 | succ n ih =>
   obtain ⟨l,hl,hp⟩:=ih (fun i hi => h i (by omega))
   obtain ⟨o,ho⟩:=h n (by omega)
   refine ⟨l ++ [o],by simp [hl],fun i hi => ?_⟩
   by_cases h1 : i < l.length
   · rw [List.getElem_append_left h1];exact hp i h1
   · have h2 : i = l.length:=by simp at hi;omega
     subst h2
     simp only [List.getElem_concat_length]
     rw [hl];exact ho
theorem add_none (b o i : Nat) : (⟨b,o,none⟩ : Addr).add i = ⟨b,o + i,none⟩:=by
 cases i <;> simp [Addr.add]
theorem cells_lt {w : World} {b o : Nat} {v : Value} (h : w.cell? ⟨b,o,none⟩ = some v) : b < w.heap.size:=by
 apply Classical.byContradiction;intro hn
 simp [World.cell?,Array.getElem?_eq_none (Nat.not_lt.1 hn)] at h
theorem sum_bulk {α H : Type} {f : α → Nat} : ∀ (l : List α) (es : List (DataW H × List MemPlace)),l.length = es.length → (∀ i (h : i < l.length) (z : DataW H × List MemPlace),es[i]? = some z → f l[i] ≤ Rows.uptoBulk z.1) → (l.map f).sum ≤ Rows.uptoBulkAll (es.map (·.1))
 | [],_,_,_ => by simp
 | a :: l,[],h,_ => by simp at h
 | a :: l,e :: es,h,hi => by
   have h1:=hi 0 (by simp) e rfl
   have h2:=sum_bulk l es (by simpa using h) (fun i hi' z hz => hi (i + 1) (by simpa using hi') z (by simpa using hz))
   simp only [List.map_cons,List.sum_cons,Rows.uptoBulkAll]
   simp only [List.getElem_cons_zero] at h1
   omega
theorem open_obj {H : Type} {enc : TypeId × Value → H} {W : World} {sp : Nat → Bool} {hd : Bool} : ∀ (fuel : Nat) (cs : List Value) (x : DataW H × List MemPlace),
   DataW.trod enc Tryz.prog W 0 sp hd fuel 26 cs = some x → ∃ o : Ob,ObjAt (fun b => b < W.heap.size) fuel W cs o ∧ ∀ e,bulkO e o ≤ Rows.uptoBulk x.1:=by
 intro fuel
 induction fuel using Nat.strongRecOn with
 | _ fuel ih =>
   intro cs x h
   obtain ⟨xs,n,rfl,rfl,hl,hlen,hf⟩:=DataW.trod_struct Tryz.underlying26 h
   have z1 : Tryz.prog.cellsOf 26 = 6:=by kernel_rfl
   have z2 : Tryz.prog.cellsOf 3 = 1:=by kernel_rfl
   have z3 : Tryz.prog.cellsOf 2 = 1:=by kernel_rfl
   have z4 : Tryz.prog.cellsOf 9 = 1:=by kernel_rfl
   have z5 : Tryz.prog.cellsOf 23 = 1:=by kernel_rfl
   have z6 : Tryz.prog.cellsOf 24 = 1:=by kernel_rfl
   rw [z1] at hl
   match cs,hl with
   | [c0,c1,c2,c3,c4,c5],_ =>
     match xs,hlen with
     | [x0,x1,x2,x3,x4,x5],_ =>
       have f0:=hf 0 _ rfl
       have f1:=hf 1 _ rfl
       have f2:=hf 2 _ rfl
       have f3:=hf 3 _ rfl
       have f4:=hf 4 _ rfl
       have f5:=hf 5 _ rfl
       simp only [z2,z3,z4,z5,z6,List.drop_zero,List.drop_succ_cons,List.take_succ_cons,List.take_zero,List.getElem?_cons_zero,List.getElem?_cons_succ] at f0 f1 f2 f3 f4 f5
       obtain ⟨k,e0,_⟩:=DataW.trod_int Tryz.underlying3 f0
       obtain ⟨nn,e1,_⟩:=DataW.trod_int Tryz.underlying2 f1
       obtain ⟨g,e2,_⟩:=DataW.trod_int Tryz.underlying3 f2
       obtain ⟨s,e3,q3⟩:=DataW.trod_string Tryz.underlying9 f3
       cases e0
       cases e1
       cases e2
       cases e3
       have HK : ∃ ks : List L,KeysAt (fun b => b < W.heap.size) W c4 ks ∧ (ks.map (fun k => k.length + 1)).sum ≤ Rows.uptoBulk x4.1:=by
         rcases DataW.trod_slice Tryz.underlying23 f4 with ⟨hc,_⟩ | ⟨a,len,cap,elems,rest,m,rfl,hc,hxe,_,_,_,hel,hx,_⟩
         · cases hc;exact ⟨[],.inl ⟨rfl,_,_,rfl⟩,by simp⟩
         · cases hc
           rw [z4] at hx
           obtain ⟨l,hl,hp⟩:=list_of_each (p:=fun i (y : L) => W.cell? (a.add i) = some (.string ⟨y.toArray⟩) ∧ ∀ z,elems[i]? = some z → y.length + 1 ≤ Rows.uptoBulk z.1) len (fun i hi => by
             have h1:=hx i hi
             rw [Nat.mul_one,List.getElem?_eq_getElem (by omega)] at h1
             obtain ⟨cs',h2,h3⟩:=Option.bind_eq_some_iff.1 h1
             obtain ⟨_,hlen',hcell⟩:=World.cells?_some h2
             obtain ⟨y,hy,hyz⟩:=DataW.trod_string Tryz.underlying9 h3
             subst hy
             have:=hcell 0 (by omega)
             refine ⟨y.data.toList,?_,fun z hz => ?_⟩
             · simpa [Addr.add] using this
             · rw [List.getElem?_eq_getElem (by omega)] at hz
               cases hz
               rw [hyz.1]
               simp [Rows.uptoBulk])
           have hsum:=sum_bulk (f:=fun k => k.length + 1) l elems (by omega) (fun i hi z hz => (hp i hi).2 z hz)
           have hbk : (l.map (fun k => k.length + 1)).sum ≤ Rows.uptoBulk x4.1:=by
             rw [hxe];simp only [Rows.uptoBulk];omega
           by_cases h0 : len = 0
           · subst h0;exact ⟨[],.inl ⟨rfl,_,_,rfl⟩,by simp⟩
           · obtain ⟨b,o,spot⟩:=a
             have h00:=(hp 0 (by omega)).1
             have hspot : spot = none:=by simpa [Addr.add] using World.cell?_spot h00
             subst hspot
             refine ⟨l,.inr ⟨b,o,cap,by rw [hl],cells_lt (by simpa [Addr.add] using h00),fun i hi => ?_⟩,hbk⟩
             have:=(hp i hi).1
             rw [add_none] at this;exact this
       have HD : (∃ p c, c5 = .slice p 0 c) ∨ ∃ (b off c : Nat) (os : List Ob), (∀ e, (os.map (bulkO e)).sum ≤ Rows.uptoBulk x5.1) ∧ c5 = .slice (some ⟨b, off, none⟩) os.length c ∧ b < W.heap.size ∧ os ≠ [] ∧
           ∀ i (h : i < os.length),∃ ks : List Value,ks.length = 6 ∧ (∀ j (hj : j < ks.length),W.cell? ⟨b,off + 6 * i + j,none⟩ = some ks[j]) ∧ ObjAt (fun b => b < W.heap.size) n W ks os[i]:=by
         rcases DataW.trod_slice Tryz.underlying24 f5 with ⟨hc,_⟩ | ⟨a,len,cap,elems,rest,m,rfl,hc,hxe,_,_,_,hel,hx,_⟩
         · cases hc;exact .inl ⟨_,_,rfl⟩
         · cases hc
           rw [z1] at hx
           obtain ⟨l,hl,hp⟩:=list_of_each (p:=fun i (o : Ob) => ∃ ks : List Value,ks.length = 6 ∧ (∀ j (hj : j < ks.length),W.cell? ((a.add (i * 6)).add j) = some ks[j]) ∧ ObjAt (fun b => b < W.heap.size) (m + 1) W ks o ∧ ∀ e z,elems[i]? = some z → bulkO e o ≤ Rows.uptoBulk z.1) len (fun i hi => by
             have h1:=hx i hi
             rw [List.getElem?_eq_getElem (by omega)] at h1
             obtain ⟨cs',h2,h3⟩:=Option.bind_eq_some_iff.1 h1
             obtain ⟨_,hlen',hcell⟩:=World.cells?_some h2
             obtain ⟨o,ho,hbo⟩:=ih m (by omega) cs' _ h3
             refine ⟨o,cs',hlen',fun j hj => ?_,ObjAt.up m ho,fun e z hz => ?_⟩
             · rw [hcell j (by omega)];exact List.getElem?_eq_getElem hj
             · rw [List.getElem?_eq_getElem (by omega)] at hz
               cases hz
               exact hbo e)
           have hbk : ∀ e,(l.map (bulkO e)).sum ≤ Rows.uptoBulk x5.1:=fun e => by
             have hsum:=sum_bulk (f:=bulkO e) l elems (by omega) (fun i hi z hz => by obtain ⟨_,_,_,_,h⟩:=hp i hi;exact h e z hz)
             rw [hxe];simp only [Rows.uptoBulk];omega
           by_cases h0 : len = 0
           · subst h0;exact .inl ⟨_,_,rfl⟩
           · obtain ⟨b,o,spot⟩:=a
             obtain ⟨ks,hk6,hkc,_,_⟩:=hp 0 (by omega)
             have h00:=hkc 0 (by omega)
             have hspot : spot = none:=by simpa [Addr.add] using World.cell?_spot h00
             subst hspot
             refine .inr ⟨b,o,cap,l,hbk,by rw [hl],cells_lt (by simpa [Addr.add] using h00),by intro hh;rw [hh] at hl;simp at hl;omega,fun i hi => ?_⟩
             obtain ⟨ks,g1,g2,g3,_⟩:=hp i hi
             refine ⟨ks,g1,fun j hj => ?_,g3⟩
             have:=g2 j hj
             rw [add_none,add_none] at this
             rw [Nat.mul_comm 6 i]
             exact this
       obtain ⟨ks,hks,hkb⟩:=HK
       have q3' : Rows.uptoBulk x3.1 = s.data.toList.length + 1:=by rw [q3.1];simp [Rows.uptoBulk]
       rcases HD with ⟨p,c,rfl⟩ | ⟨b,off,c,os,hob,rfl,hb,hne,hos⟩
       · refine ⟨.mk k nn g s.data.toList ks [],⟨c4,.slice p 0 c,by simp [objCells,Ob.kind,Ob.n,Ob.g,Ob.s],hks,.inl ⟨rfl,_,_,rfl⟩⟩,fun e => ?_⟩
         cases e with
         | zero => exact Nat.zero_le _
         | succ e =>
           simp only [bulkO,Ob.s,Ob.keys,Ob.kids,List.map_cons,List.map_nil,List.sum_nil,Rows.uptoBulk,Rows.uptoBulkAll]
           omega
       · refine ⟨.mk k nn g s.data.toList ks os,⟨c4,_,by simp [objCells,Ob.kind,Ob.n,Ob.g,Ob.s];rfl,hks,.inr ⟨b,off,c,rfl,hb,hos⟩⟩,fun e => ?_⟩
         cases e with
         | zero => exact Nat.zero_le _
         | succ e =>
           have:=hob e
           simp only [bulkO,Ob.s,Ob.keys,Ob.kids,List.map_cons,List.map_nil,Rows.uptoBulk,Rows.uptoBulkAll]
           omega
theorem small_of {S : Nat → Prop} {W : World} {B : Nat} (hB : B ≤ 140737488355328) : ∀ (d : Nat) (cs : List Value) (o : Ob),ObjAt S d W cs o → (∀ e,bulkO e o ≤ B) → smallO d o
 | 0,_,_,h,_ => h.elim
 | d + 1,cs,o,h,hb => by
   obtain ⟨kv,dv,_,_,h3⟩:=h
   have b1 : o.keys.length ≤ bulkO 1 o:=bulk_keys 0 o
   have b2 : o.kids.length ≤ bulkO 2 o:=bulk_kids 0 o
   have b3 : o.s.length ≤ bulkO 1 o:=bulk_s 0 o
   have:=hb 1
   have:=hb 2
   refine ⟨by omega,by omega,by omega,fun x hx => ?_,fun k hk => ?_⟩
   · have : x.length ≤ bulkO 1 o:=bulk_key (d:=0) hx
     omega
   · rcases h3 with ⟨h3,_⟩ | ⟨b,off,c,_,_,h6⟩
     · rw [h3] at hk;cases hk
     · obtain ⟨i,hi,rfl⟩:=List.mem_iff_getElem.1 hk
       obtain ⟨ks,_,_,g3⟩:=h6 i hi
       exact small_of hB d ks _ g3 (fun e => Nat.le_trans (bulk_kid hk) (hb (e + 1)))
open Go.RowKit Fo Go.ChangeShapes
theorem sum_three {α : Type} (f : α → Nat) : ∀ l : List α,(l.map fun x => f x + 3).sum = (l.map f).sum + 3 * l.length
 | [] => rfl
 | x :: l => by
   have:=sum_three f l
   simp only [List.map_cons,List.sum_cons,List.length_cons];omega
theorem open_item {H : Type} {enc : TypeId × Value → H} {W : World} {sp : Nat → Bool} {hd : Bool} (fuel : Nat) (cs : List Value) (x : DataW H × List MemPlace)
   (h : DataW.trod enc Tryz.prog W 0 sp hd fuel 50 cs = some x) : ∃ (i : It) (v0 v1 v2 v3 v4 v5 : Value),cs = [.int .i64 i.num,.int .i64 i.gen,v0,v1,v2,v3,v4,v5] ∧ ObjAt (fun b => b < W.heap.size) fuel W [v0,v1,v2,v3,v4,v5] i.ob ∧ ∀ e,bulkO e i.ob + 3 ≤ Rows.uptoBulk x.1:=by
 obtain ⟨xs,n,rfl,rfl,hl,hlen,hf⟩:=DataW.trod_struct Tryz.underlying50 h
 have z1 : Tryz.prog.cellsOf 50 = 8:=by kernel_rfl
 have z2 : Tryz.prog.cellsOf 3 = 1:=by kernel_rfl
 have z3 : Tryz.prog.cellsOf 26 = 6:=by kernel_rfl
 rw [z1] at hl
 match cs,hl with
 | [c0,c1,c2,c3,c4,c5,c6,c7],_ =>
   match xs,hlen with
   | [x0,x1,x2],_ =>
     have f0:=hf 0 _ rfl
     have f1:=hf 1 _ rfl
     have f2:=hf 2 _ rfl
     simp only [z2,z3,List.drop_zero,List.drop_succ_cons,List.take_succ_cons,List.take_zero,List.getElem?_cons_zero,List.getElem?_cons_succ] at f0 f1 f2
     obtain ⟨k,e0,q0⟩:=DataW.trod_int Tryz.underlying3 f0
     obtain ⟨g,e1,q1⟩:=DataW.trod_int Tryz.underlying3 f1
     cases e0
     cases e1
     obtain ⟨o,hO,hb⟩:=open_obj _ _ _ f2
     refine ⟨⟨k,g,o⟩,c2,c3,c4,c5,c6,c7,rfl,ObjAt.up _ hO,fun e => ?_⟩
     have:=hb e
     have b0 : 1 ≤ Rows.uptoBulk x0.1:=by rw [q0.1];exact Nat.le_refl _
     have b1 : 1 ≤ Rows.uptoBulk x1.1:=by rw [q1.1];exact Nat.le_refl _
     simp only [Rows.uptoBulk,List.map_cons,List.map_nil,Rows.uptoBulkAll]
     omega
theorem open_doc {H : Type} {enc : TypeId × Value → H} {W : World} {sp : Nat → Bool} {hd : Bool} (fuel : Nat) (cs : List Value) (x : DataW H × List MemPlace)
   (h : DataW.trod enc Tryz.prog W 0 sp hd fuel 28 cs = some x) : ∃ (D : Dc) (iv v0 v1 v2 v3 v4 v5 : Value),cs = [iv,v0,v1,v2,v3,v4,v5] ∧ ItemsAt (fun b => b < W.heap.size) fuel W iv D.items ∧ ObjAt (fun b => b < W.heap.size) fuel W [v0,v1,v2,v3,v4,v5] D.trail ∧ ∀ e,bulkD e D + 3 * D.items.length ≤ Rows.uptoBulk x.1:=by
 obtain ⟨xs,n,rfl,rfl,hl,hlen,hf⟩:=DataW.trod_struct Tryz.underlying28 h
 have z1 : Tryz.prog.cellsOf 28 = 7:=by kernel_rfl
 have z2 : Tryz.prog.cellsOf 22 = 1:=by kernel_rfl
 have z3 : Tryz.prog.cellsOf 26 = 6:=by kernel_rfl
 have z8 : Tryz.prog.cellsOf 50 = 8:=by kernel_rfl
 rw [z1] at hl
 match cs,hl with
 | [c0,c1,c2,c3,c4,c5,c6],_ =>
   match xs,hlen with
   | [x0,x1],_ =>
     have f0:=hf 0 _ rfl
     have f1:=hf 1 _ rfl
     simp only [z2,z3,List.drop_zero,List.drop_succ_cons,List.take_succ_cons,List.take_zero,List.getElem?_cons_zero,List.getElem?_cons_succ] at f0 f1
     obtain ⟨o,hO,hb⟩:=open_obj _ _ _ f1
     have HD : ∃ l : List It,ItemsAt (fun b => b < W.heap.size) (n + 1) W c0 l ∧ ∀ e,(l.map fun i => bulkO e i.ob + 3).sum ≤ Rows.uptoBulk x0.1:=by
       rcases DataW.trod_slice Tryz.underlying22 f0 with ⟨hc,_⟩ | ⟨a,len,cap,elems,rest,m,rfl,hc,hxe,_,_,_,hel,hx,_⟩
       · cases hc;exact ⟨[],.inl ⟨rfl,_,_,rfl⟩,fun e => by simp⟩
       · cases hc
         rw [z8] at hx
         obtain ⟨l,hl,hp⟩:=list_of_each (p:=fun i (y : It) => ∃ ks : List Value,ks.length = 8 ∧ (∀ j (hj : j < ks.length),W.cell? ((a.add (i * 8)).add j) = some ks[j]) ∧ (∃ (v0 v1 v2 v3 v4 v5 : Value),ks = [.int .i64 y.num,.int .i64 y.gen,v0,v1,v2,v3,v4,v5] ∧ ObjAt (fun b => b < W.heap.size) (m + 2) W [v0,v1,v2,v3,v4,v5] y.ob) ∧ ∀ e z,elems[i]? = some z → bulkO e y.ob + 3 ≤ Rows.uptoBulk z.1) len (fun i hi => by
           have h1:=hx i hi
           rw [List.getElem?_eq_getElem (by omega)] at h1
           obtain ⟨cs',h2,h3⟩:=Option.bind_eq_some_iff.1 h1
           obtain ⟨_,hlen',hcell⟩:=World.cells?_some h2
           obtain ⟨y,v0,v1,v2,v3,v4,v5,rfl,ho,hbo⟩:=open_item m _ _ h3
           refine ⟨y,_,hlen',fun j hj => ?_,⟨v0,v1,v2,v3,v4,v5,rfl,ObjAt.up _ (ObjAt.up _ ho)⟩,fun e z hz => ?_⟩
           · rw [hcell j (by omega)];exact List.getElem?_eq_getElem hj
           · rw [List.getElem?_eq_getElem (by omega)] at hz
             cases hz
             exact hbo e)
         have hbk : ∀ e,(l.map fun i => bulkO e i.ob + 3).sum ≤ Rows.uptoBulk x0.1:=fun e => by
           have hsum:=sum_bulk (f:=fun i : It => bulkO e i.ob + 3) l elems (by omega) (fun i hi z hz => by obtain ⟨_,_,_,_,h⟩:=hp i hi;exact h e z hz)
           rw [hxe];simp only [Rows.uptoBulk];omega
         by_cases h0 : len = 0
         · subst h0
           have hl0 : l = []:=List.eq_nil_of_length_eq_zero hl
           subst hl0
           exact ⟨[],.inl ⟨rfl,_,_,rfl⟩,fun e => by simp⟩
         · obtain ⟨b,o,spot⟩:=a
           obtain ⟨ks,hk8,hkc,_,_⟩:=hp 0 (by omega)
           have h00:=hkc 0 (by omega)
           have hspot : spot = none:=by simpa [Addr.add] using World.cell?_spot h00
           subst hspot
           refine ⟨l,.inr ⟨b,o,cap,by rw [hl],cells_lt (by simpa [Addr.add] using h00),fun i hi => ?_⟩,hbk⟩
           obtain ⟨ks,g1,g2,⟨v0,v1,v2,v3,v4,v5,rfl,g3⟩,_⟩:=hp i hi
           have g : ∀ j (hj : j < 8),W.cell? ⟨b,o + i * 8 + j,none⟩ = some ([Value.int .i64 l[i].num,.int .i64 l[i].gen,v0,v1,v2,v3,v4,v5][j]'hj):=fun j hj => by
             have:=g2 j hj
             rw [add_none,add_none] at this
             exact this
           exact ⟨v0,v1,v2,v3,v4,v5,g 0 (by decide),g 1 (by decide),g 2 (by decide),g 3 (by decide),g 4 (by decide),g 5 (by decide),g 6 (by decide),g 7 (by decide),g3⟩
     obtain ⟨l,hI,hbI⟩:=HD
     refine ⟨⟨l,o⟩,c0,c1,c2,c3,c4,c5,c6,rfl,hI,ObjAt.up _ hO,fun e => ?_⟩
     have:=hb e
     have:=hbI e
     rw [sum_three] at this
     unfold bulkD
     simp only [Rows.uptoBulk,List.map_cons,List.map_nil,Rows.uptoBulkAll]
     omega
theorem items_small {W : World} {d : Nat} {v : Value} {D : Dc} {S : Nat → Prop} (h : ItemsAt S d W v D.items) (hb : ∀ e,bulkD e D + 3 * D.items.length ≤ 1048576) : ∀ i ∈ D.items,smallO d i.ob:=by
 intro i hi
 have hbi : ∀ e,bulkO e i.ob ≤ 1048576:=fun e => by
   have h1:=hb e
   have h2:=mem_sum_le (fun i : It => bulkO e i.ob) hi
   unfold bulkD at h1
   omega
 obtain ⟨k,hk,rfl⟩:=List.mem_iff_getElem.1 hi
 rcases h with ⟨h,_⟩ | ⟨b,off,c,_,_,h3⟩
 · rw [h] at hk;exact absurd hk (Nat.not_lt_zero _)
 · obtain ⟨v0,v1,v2,v3,v4,v5,_,_,_,_,_,_,_,_,a8⟩:=h3 k hk
   exact small_of (B:=1048576) (by decide) _ _ _ a8 hbi
open Go.RowKit Fo Go.ChangeShapes
def SlCap (v : Value) : Prop:=∃ p m c,v = .slice p m c ∧ m ≤ c ∧ (p = none → c = 0)
theorem SlCap.get {p : Option Addr} {m c : Nat} (h : SlCap (.slice p m c)) : m ≤ c ∧ (p = none → c = 0):=by
 obtain ⟨_,_,_,e,h⟩:=h
 cases e
 exact h
section
variable {H : Type} {enc : TypeId × Value → H} {W : World} {sp : Nat → Bool} {hd : Bool}
theorem cap_slice {t e : TypeId} {fuel : Nat} {v : Value} {x : DataW H × List MemPlace} (ht : Tryz.prog.underlying t = some (.slice e)) (h : DataW.trod enc Tryz.prog W 0 sp hd fuel t [v] = some x) : SlCap v:=by
 rcases DataW.trod_slice ht h with ⟨hc,_⟩ | ⟨a,len,cap,elems,rest,m,_,hc,_,_,hle,_⟩
 · cases hc;exact ⟨_,_,_,rfl,Nat.le_refl _,fun _ => rfl⟩
 · cases hc;exact ⟨_,_,_,rfl,hle,fun h => by cases h⟩
theorem cap_obj (fuel : Nat) (cs : List Value) (x : DataW H × List MemPlace) (h : DataW.trod enc Tryz.prog W 0 sp hd fuel 26 cs = some x) : ∃ c0 c1 c2 c3 c4 c5,cs = [c0,c1,c2,c3,c4,c5] ∧ SlCap c4 ∧ SlCap c5:=by
 obtain ⟨xs,n,rfl,rfl,hl,hlen,hf⟩:=DataW.trod_struct Tryz.underlying26 h
 have z1 : Tryz.prog.cellsOf 26 = 6:=by kernel_rfl
 have z2 : Tryz.prog.cellsOf 3 = 1:=by kernel_rfl
 have z3 : Tryz.prog.cellsOf 2 = 1:=by kernel_rfl
 have z4 : Tryz.prog.cellsOf 9 = 1:=by kernel_rfl
 have z5 : Tryz.prog.cellsOf 23 = 1:=by kernel_rfl
 have z6 : Tryz.prog.cellsOf 24 = 1:=by kernel_rfl
 rw [z1] at hl
 match cs,hl with
 | [c0,c1,c2,c3,c4,c5],_ =>
   match xs,hlen with
   | [x0,x1,x2,x3,x4,x5],_ =>
     have f4:=hf 4 _ rfl
     have f5:=hf 5 _ rfl
     simp only [z2,z3,z4,z5,z6,List.drop_zero,List.drop_succ_cons,List.take_succ_cons,List.take_zero,List.getElem?_cons_zero,List.getElem?_cons_succ] at f4 f5
     exact ⟨c0,c1,c2,c3,c4,c5,rfl,cap_slice Tryz.underlying23 f4,cap_slice Tryz.underlying24 f5⟩
theorem cap_item (fuel : Nat) (cs : List Value) (x : DataW H × List MemPlace) (h : DataW.trod enc Tryz.prog W 0 sp hd fuel 50 cs = some x) : ∃ i0 i1 c0 c1 c2 c3 c4 c5,cs = [i0,i1,c0,c1,c2,c3,c4,c5] ∧ SlCap c4 ∧ SlCap c5:=by
 obtain ⟨xs,n,rfl,rfl,hl,hlen,hf⟩:=DataW.trod_struct Tryz.underlying50 h
 have z1 : Tryz.prog.cellsOf 50 = 8:=by kernel_rfl
 have z2 : Tryz.prog.cellsOf 3 = 1:=by kernel_rfl
 have z3 : Tryz.prog.cellsOf 26 = 6:=by kernel_rfl
 rw [z1] at hl
 match cs,hl with
 | [c0,c1,c2,c3,c4,c5,c6,c7],_ =>
   match xs,hlen with
   | [x0,x1,x2],_ =>
     have f2:=hf 2 _ rfl
     simp only [z2,z3,List.drop_zero,List.drop_succ_cons,List.take_succ_cons,List.take_zero,List.getElem?_cons_zero,List.getElem?_cons_succ] at f2
     obtain ⟨_,_,_,_,_,_,e,h4,h5⟩:=cap_obj _ _ _ f2
     cases e
     exact ⟨c0,c1,c2,c3,c4,c5,c6,c7,rfl,h4,h5⟩
theorem cap_doc (fuel : Nat) (cs : List Value) (x : DataW H × List MemPlace) (h : DataW.trod enc Tryz.prog W 0 sp hd fuel 28 cs = some x) : CapD W cs:=by
 obtain ⟨xs,n,rfl,rfl,hl,hlen,hf⟩:=DataW.trod_struct Tryz.underlying28 h
 have z1 : Tryz.prog.cellsOf 28 = 7:=by kernel_rfl
 have z2 : Tryz.prog.cellsOf 22 = 1:=by kernel_rfl
 have z3 : Tryz.prog.cellsOf 26 = 6:=by kernel_rfl
 have z8 : Tryz.prog.cellsOf 50 = 8:=by kernel_rfl
 rw [z1] at hl
 match cs,hl with
 | [c0,c1,c2,c3,c4,c5,c6],_ =>
   match xs,hlen with
   | [x0,x1],_ =>
     have f0:=hf 0 _ rfl
     have f1:=hf 1 _ rfl
     simp only [z2,z3,List.drop_zero,List.drop_succ_cons,List.take_succ_cons,List.take_zero,List.getElem?_cons_zero,List.getElem?_cons_succ] at f0 f1
     obtain ⟨_,_,_,_,_,_,e,⟨p1,m1,e1,rfl,h1,h2⟩,⟨p2,m2,e2,rfl,h3,h4⟩⟩:=cap_obj _ _ _ f1
     cases e
     refine ⟨c0,_,_,_,_,p1,m1,e1,p2,m2,e2,rfl,fun b off k c hc0 => ?_,h1,h3,h2,h4⟩
     subst hc0
     rcases DataW.trod_slice Tryz.underlying22 f0 with ⟨hc,_⟩ | ⟨a,len,cap,elems,rest,m,_,hc,_,_,_,_,hel,hx,_⟩
     · cases hc
     · cases hc
       rw [z8] at hx
       have hit : ∀ i,i < k → ∃ i0 i1 d0 d1 d2 d3 d4 d5,(∀ j (hj : j < 8),W.cell? ⟨b,off + i * 8 + j,none⟩ = some ([i0,i1,d0,d1,d2,d3,d4,d5][j]'hj)) ∧ SlCap d4 ∧ SlCap d5:=fun i hi => by
         have h1:=hx i hi
         rw [List.getElem?_eq_getElem (by omega)] at h1
         obtain ⟨cs',h2,h3⟩:=Option.bind_eq_some_iff.1 h1
         obtain ⟨_,hlen',hcell⟩:=World.cells?_some h2
         obtain ⟨i0,i1,d0,d1,d2,d3,d4,d5,rfl,g4,g5⟩:=cap_item m _ _ h3
         refine ⟨i0,i1,d0,d1,d2,d3,d4,d5,fun j hj => ?_,g4,g5⟩
         have:=hcell j (by omega)
         rw [add_none,add_none] at this
         rw [this]
         exact List.getElem?_eq_getElem hj
       refine ⟨fun h0 => ?_,fun j hj p m' c' hc' => ?_⟩
       · obtain ⟨_,_,_,_,_,_,_,_,g,_⟩:=hit 0 h0
         exact cells_lt (by simpa using g 0 (by decide))
       · obtain ⟨i0,i1,d0,d1,d2,d3,d4,d5,g,g4,g5⟩:=hit j hj
         rcases hc' with hc' | hc'
         · have:=(g 6 (by decide)).symm.trans hc'
           injection this with this
           have e : d4 = .slice p m' c':=this
           rw [e] at g4;exact g4.get
         · have:=(g 7 (by decide)).symm.trans hc'
           injection this with this
           have e : d5 = .slice p m' c':=this
           rw [e] at g5;exact g5.get
end
open Go.ChangeShapes Go.WideShapes Go.ChangeAt Go.RowKit
theorem ownK : ownKnob Tryz.prog.godebug = none:=by kernel_rfl
theorem post_below {H : Type} {enc : TypeId × Value → H} {P : Program} {f : Func} {s : ChangeSpec} {apart fresh handsOn again : Bool} {W W' : World} {args : Array Value} {v : Value} {ds gs : List (DataW H)} {before pa pv : List MemPlace}
   (hW : DataW.Whole enc P f.params.toList s.vars apart W args.toList ds gs before)
   (hres : ∀ (b : Nat) (sp : Nat → Bool) (hd : Bool),DataW.TrodAll enc P W' b sp hd f.resultTypes.toList (v.resultList f.resultTypes.size) (s.fn H (ds ++ gs)).results [])
   (hargs : ∀ sp : Nat → Bool,(∀ p ∈ before,sp p.block = true) → DataW.TrodAll enc P W' 0 sp true f.params.toList args.toList (s.fn H (ds ++ gs)).args pa)
   (hvars : ∀ sp : Nat → Bool,(∀ p ∈ before,sp p.block = true) → DataW.TrodVars enc P W' sp s.vars (s.fn H (ds ++ gs)).vars pv)
   (hps : before = pa ++ pv) (hb : Below W.heap.size W W')
   (hok : ∀ (j : Nat) (t : TypeId) (r : Value),f.resultTypes[j]? = some t → (v.resultList f.resultTypes.size)[j]? = some r → Value.okWide P W' .any 0 t r) :
   s.post enc P f apart fresh handsOn again W args v W':=by
 have hlt : ∀ p ∈ before,p.block < W.heap.size:=fun p hp => hW.lt p hp
 have hold : ∀ p ∈ before,(fun b => decide (b < W.heap.size)) p.block = true:=fun p hp => by simpa using hlt p hp
 refine ⟨ds,gs,before,[],pa,pv,hW,hres _ _ _,hargs _ hold,hvars _ hold,World.keptBut_mono (fun p hp => ⟨hp,?_⟩) (hb.frame (· ∈ before)),fun _ => ?_⟩
 · rw [hps,List.mem_append] at hp
   exact Or.inr hp
 · obtain ⟨_,_,_,_,_,hz,hn⟩:=hW
   refine ⟨hok,_,_,([] ++ pa) ++ pv,⟨[] ++ pa,pv,trodAll_append (hargs _ (fun _ _ => rfl)) (hres _ _ _),hvars _ (fun _ _ => rfl),rfl,?_,?_⟩,?_⟩
   · intro b off hp
     have hin : MemPlace.cell b off ∈ before:=by rw [hps];simpa using hp
     rw [hb.frozen (hlt _ hin)]
     exact hz b off hin
   · intro ha
     have:=hn ha
     rw [hps] at this
     simpa using this
   · intro p hp _
     rw [hps]
     simpa using hp
def litV : DataW Unit → Value
 | .lit (.int k z) => .int k z
 | _ => .int .i64 0
def aggV : DataW Unit → Array Value
 | .agg l => (l.map litV).toArray
 | _ => #[]
def firstCells : Array Value:=(Go.Pinned.utf8FirstZ.map fun (n : Nat) => Value.int .u8 n).toArray
def rangeCells : Array Value:=(([128,191,160,191,128,159,144,191,128,143] ++ List.replicate 22 0).map fun (n : Nat) => Value.int .u8 n).toArray
def layC (cs : Array Value) : Go.Obj → Go.Obj
 | .cells _ t frozen => .cells cs t frozen
 | o => o
noncomputable def laidWorld (os : Os) : World :=
 let w0:=World.holding Tryz.prog os ⟨#[],#[],[]⟩
 { w0 with heap:=((((w0.heap.modify 4 (layC firstCells)).modify 5 (layC rangeCells)).modify 0 (layC (aggV Rows.laid_internal_strconv_uint64pow10))).modify 2 (layC (aggV Rows.laid_math_bits_deBruijn32tab))).modify 3 (layC (aggV Rows.laid_math_bits_deBruijn64tab)) }
def laid5 : List (String × DataW Unit) := [("math/bits.deBruijn32tab", Rows.laid_math_bits_deBruijn32tab), ("math/bits.deBruijn64tab", Rows.laid_math_bits_deBruijn64tab), ("internal/strconv.uint64pow10", Rows.laid_internal_strconv_uint64pow10), ("unicode/utf8.acceptRanges", Rows.laid_unicode_utf8_acceptRanges), ("unicode/utf8.first", Rows.laid_unicode_utf8_first)]
theorem pow10_is : (Rows.laid_internal_strconv_uint64pow10 : DataW Unit) = Lib.tabData .u64 Lib.pow10Tab:=by kernel_rfl
theorem tabP_of {W : World} (hL : laidMet Tryz.prog laid5 W) : TabP W:=by
 obtain ⟨g',t',cs,fuel,p,hg',ht',hvar,hd⟩:=Lib.laidMet.reads hL (.tail _ (.tail _ (.head _)))
 rw [pow10_is] at hd
 have hg : Tryz.prog.globalNamed "internal/strconv.uint64pow10" = some 0 := by kernel_rfl
 obtain rfl:=Option.some.inj (hg.symm.trans hg')
 have ht : (Tryz.prog.globals[0]?).map (·.type) = some 231:=by kernel_rfl
 obtain rfl:=Option.some.inj (ht.symm.trans ht')
 unfold TabP Lib.TabIs
 rw [hvar,← Lib.cells_of_tab Tryz.underlying231 Tryz.underlying217 (by kernel_rfl) (by kernel_rfl) hd]
end Go.Proofs.YtfgdhcemidlnfaaGreatDoor
