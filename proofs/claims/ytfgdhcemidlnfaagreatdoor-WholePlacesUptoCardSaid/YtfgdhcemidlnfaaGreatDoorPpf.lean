/- Parts of the proof: GTb. -/
import Derived.Test.YtfgdhcemidlnfaaGreatDoorPpe
import Derived.Test.YtfgdhcemidlnfaaGreatDoorPpb
import Derived.Test.YtfgdhcemidlnfaaGreatDoorPpc
import Derived.Maps.OwnSet
import Derived.OwnWalk
import Derived.Shelf.Strings.BuilderK
set_option linter.all false
set_option maxRecDepth 100000
set_option maxHeartbeats 8000000
namespace Go.Proofs.YtfgdhcemidlnfaaGreatDoor
open Go.RowKit Fo
def slE : Enc Sl:=⟨4,fun x => [.int .i64 x.num,.int .i64 x.kind,.int .i64 x.a,.int .i64 x.b],fun _ => rfl,fun x u hu => by
 simp only [List.mem_cons,List.not_mem_nil,or_false] at hu
 rcases hu with rfl | rfl | rfl | rfl <;> rfl⟩
theorem slot_at {w : World} {p : Option Addr} {n c : Nat} {l : List Sl} (h : RArg slE w (.slice p n c) l) (k : Nat) (hk : k < l.length) :
   ∃ g off,p = some ⟨g,off,none⟩ ∧ g < w.heap.size ∧ w.cell? ⟨g,off + k * 4,none⟩ = some (.int .i64 l[k].num) ∧ w.cell? ⟨g,off + k * 4 + 1,none⟩ = some (.int .i64 l[k].kind) ∧
     w.cell? ⟨g,off + k * 4 + 2,none⟩ = some (.int .i64 l[k].a) ∧ w.cell? ⟨g,off + k * 4 + 3,none⟩ = some (.int .i64 l[k].b):=by
 obtain ⟨p',c',e,h⟩:=h
 cases e
 obtain ⟨g,off,h1,h2,h3⟩:=h k hk
 exact ⟨g,off,h1,h2,h3 0 _ rfl,h3 1 _ rfl,h3 2 _ rfl,h3 3 _ rfl⟩
theorem tfits_in (x : Sl) (h0 : x.kind = 0 ∨ x.kind = 1) (h1 : 0 ≤ x.a) (h2 : x.a ≤ 2147483647) (h3 : 0 ≤ x.b) (h4 : x.b ≤ 65535) (w : World) :
   Calls Tryz.prog 189 #[.agg #[.int .i64 x.num,.int .i64 x.kind,.int .i64 x.a,.int .i64 x.b]] w fun e w' => e = .returned (.bool true) ∧ Below w.heap.size w w':=by
 obtain ⟨num,kind,a,b⟩:=x
 simp only at *
 have d0 : decide (kind = 2) = false:=decide_eq_false (by omega)
 have dk : ¬ kind = 2:=by omega
 have d1 : decide (0 ≤ a) = true:=decide_eq_true h1
 have d2 : decide (a ≤ 2147483647) = true:=decide_eq_true h2
 have d3 : decide (0 ≤ b) = true:=decide_eq_true h3
 have d4 : decide (b ≤ 65535) = true:=decide_eq_true h4
 clear h0 h1 h2 h3 h4
 go_enter Tryz.func189,Tryz.ntmps189
 go_wp2
 go_ret
 exact ⟨rfl,bel⟩
open Go.RowKit Fo Go.Maps
def slotR (v : Value) : Option (DataW Unit × List MemPlace):=match v with
 | .agg ⟨[.int .i64 a,.int .i64 b,.int .i64 c,.int .i64 d]⟩ => some (.agg [.lit (.int .i64 a),.lit (.int .i64 b),.lit (.int .i64 c),.lit (.int .i64 d)],[])
 | _ => none
def slV (x : Sl) : Value:=.agg #[.int .i64 x.num,.int .i64 x.kind,.int .i64 x.a,.int .i64 x.b]
def slD (x : Sl) : DataW Unit:=.agg [.lit (.int .i64 x.num),.lit (.int .i64 x.kind),.lit (.int .i64 x.a),.lit (.int .i64 x.b)]
theorem slotR_slV (x : Sl) : slotR (slV x) = some (slD x,[]):=rfl
theorem slotR_inv {v : Value} {z : DataW Unit × List MemPlace} (h : slotR v = some z) : ∃ x : Sl,v = slV x ∧ z = (slD x,[]):=by
 unfold slotR at h
 split at h
 · rename_i a b c d
   cases h
   exact ⟨⟨a,b,c,d⟩,rfl,rfl⟩
 · cases h
theorem slD_inj {x y : Sl} (h : slD x = slD y) : x = y:=by
 obtain ⟨_,_,_,_⟩:=x
 obtain ⟨_,_,_,_⟩:=y
 simp [slD] at h
 obtain ⟨rfl,rfl,rfl,rfl⟩:=h
 rfl
structure MapS (D : DataW Unit) (ps : List Sl) : Prop where
 tidy : Tidy D
 has : ∀ c : Int,Maps.has D (.int .i64 c) = (ps.find? (fun x => x.num == c)).isSome
 at' : ∀ (c : Int) (x : Sl),ps.find? (fun x => x.num == c) = some x → ∀ z,D.atKey (.int .i64 c) z = slD x
theorem MapS.nil : MapS (.map []) []:=⟨tidy_empty,fun c => rfl,fun c x h => by simp at h⟩
theorem isKey_num (c : Int) : WideAt.IsKeyLit (.int .i64 c):=trivial
theorem MapS.push {D : DataW Unit} {ps : List Sl} (h : MapS D ps) (x : Sl) (hx : ps.find? (fun y => y.num == x.num) = none) : MapS (D.put (.int .i64 x.num) (slD x)) (ps ++ [x]):=by
 refine ⟨h.tidy.put (isKey_num _) _,fun c => ?_,fun c y hy z => ?_⟩
 · rw [List.find?_append]
   by_cases hc : c = x.num
   · subst hc
     rw [has_put_same h.tidy.isMap (isKey_num _),hx];simp
   · rw [has_put_other (by simpa using hc),h.has c]
     have : ¬ x.num = c:=fun h => hc h.symm
     simp [this]
 · rw [List.find?_append] at hy
   by_cases hc : c = x.num
   · subst hc
     rw [hx] at hy
     simp at hy
     subst hy
     exact atKey_put_same h.tidy.isMap (isKey_num _) _ _
   · have : ¬ x.num = c:=fun h => hc h.symm
     rw [atKey_put_other (by simpa using hc)]
     refine h.at' c y ?_ z
     simpa [this] using hy
def MpS (w : World) (mb n : Nat) (ps : List Sl) : Prop:=∃ D : DataW Unit,w.ownsMap Tryz.prog 3 slotR mb n D ∧ MapS D ps
theorem MpS.lt {w : World} {mb n : Nat} {ps : List Sl} (h : MpS w mb n ps) : mb < w.heap.size:=by
 obtain ⟨D,⟨es,clock,hb,_⟩,_⟩:=h
 exact (Array.getElem?_eq_some_iff.1 hb).1
theorem MpS.kept {w w' : World} {mb n : Nat} {ps : List Sl} (h : MpS w mb n ps) (hk : w'.heap[mb]? = w.heap[mb]?) : MpS w' mb n ps:=by
 obtain ⟨D,⟨es,clock,hb,F⟩,h2⟩:=h
 exact ⟨D,⟨es,clock,hk.trans hb,F⟩,h2⟩
theorem MpS.below {w w' : World} {mb n : Nat} {ps : List Sl} (h : MpS w mb n ps) (hb : Below w.heap.size w w') : MpS w' mb n ps:=h.kept (hb.block mb h.lt)
theorem MpS.made (w : World) : MpS (w.alloc (.map #[] 0)) w.heap.size 0 []:=⟨_,World.ownsMap_made w _ _ _,MapS.nil⟩
theorem zeroSlot (w : World) : (zeroValue 48).run Tryz.prog w = .ok (slV ⟨0,0,0,0⟩) w:=by kernel_rfl
theorem MpS.look {w : World} {mb n : Nat} {ps : List Sl} (h : MpS w mb n ps) (c : Int) (h0 : 0 ≤ c) (h1 : c ≤ 1000000) :
   ∃ x : Sl,(Instr.lookup 101 (.map (some mb)) (.int .i64 c) true).run Tryz.prog w = .ok (.tuple #[slV x,.bool (ps.find? (fun y => y.num == c)).isSome]) w ∧
     ∀ y,ps.find? (fun y => y.num == c) = some y → x = y:=by
 obtain ⟨D,hown,hD⟩:=h
 have hwf : (Lit.int .i64 c).wf = true:=by simp [Lit.wf,IntKind.min,IntKind.max,IntKind.bits,IntKind.signed];omega
 have hkey:=keyOf_int_mk Tryz.underlying3 hwf
 obtain ⟨v0,ps0,hrun,hv0⟩:=hown.look_ok (int_keyed Tryz.underlying3) Tryz.underlying101 (zeroSlot w) (slotR_slV _) hkey
 obtain ⟨x,rfl,hz⟩:=slotR_inv hv0
 refine ⟨x,by rw [hrun,hD.has c],fun y hy => ?_⟩
 have e : D.atKey (.int .i64 c) (slD ⟨0,0,0,0⟩) = slD x:=congrArg Prod.fst hz
 rw [hD.at' c y hy] at e
 exact (slD_inj e).symm
theorem four_of {w : World} {b : Nat} {t : TypeId} {v0 v1 v2 v3 : Value} (h : w.heap[b]? = some (.cells #[v0, v1, v2, v3] t (0, 0))) :
   w.cell? ⟨b,0,none⟩ = some v0 ∧ w.cell? ⟨b,1,none⟩ = some v1 ∧ w.cell? ⟨b,2,none⟩ = some v2 ∧ w.cell? ⟨b,3,none⟩ = some v3:=by
 simp [World.cell?,h]
def SlotsOk (l : List Sl) : Prop:=l.length ≤ 8192 ∧ ∀ (k : Nat) (x : Sl),l[k]? = some x → SlotOk k x
theorem tcheck_in (v : Value) (l : List Sl) (w : World) (hv : RArg slE w v l) (hl : SlotsOk l) :
   Calls Tryz.prog 144 #[v] w fun e w' => e = .returned (.int .i64 0) ∧ Below w.heap.size w w':=by
 obtain ⟨p,cp,rfl,_⟩:=id hv
 obtain ⟨n,hn⟩ : ∃ n,l.length = n:=⟨_,rfl⟩
 have HV:=Lh hv
 have HN:=Lh hn
 have HL:=Lh hl.2
 have hn1 : n ≤ 8192:=by have:=hl.1;omega
 rw [hn] at HV
 rw [hn]
 clear hv hn hl
 go_enter Tryz.func144,Tryz.ntmps144
 go_wp2
 go_loopw [7] (fun i wr => ∃ k : Nat,k ≤ n ∧ i = .int .i64 k ∧ Below w.heap.size w wr) (fun i _ => n - (intOf i).toNat)
 case atStart => exact ⟨0,Nat.zero_le _,rfl,Below.refl _ _⟩
 case round =>
   obtain ⟨k,hk,rfl,hbr⟩:=hrel
   have hzr:=hbr.size
   by_cases hlk : k < n
   · have hvr : RArg slE wr (.slice p n cp) l:=HV.out.below hbr
     have hk' : k < l.length:=by rw [HN.out];exact hlk
     obtain ⟨b,off,rfl,hblt,a0,a1,a2,a3⟩:=slot_at hvr k hk'
     obtain ⟨hN,hK,hA0,hA1,hG0,hG1,_⟩:=HL.out k l[k] (List.getElem?_eq_getElem hk')
     have HFT:=Lh (fun W => tfits_in l[k] hK hA0 hA1 hG0 hG1 W)
     obtain ⟨N,hNe⟩ : ∃ N,l[k].num = N:=⟨_,rfl⟩
     obtain ⟨kd,hke⟩ : ∃ N,l[k].kind = N:=⟨_,rfl⟩
     obtain ⟨a,hae⟩ : ∃ N,l[k].a = N:=⟨_,rfl⟩
     obtain ⟨g,hge⟩ : ∃ N,l[k].b = N:=⟨_,rfl⟩
     rw [hNe] at a0 HFT hN
     rw [hke] at a1 HFT hK
     rw [hae] at a2 HFT
     rw [hge] at a3 HFT
     have hbne : ¬ b = wr.heap.size:=by omega
     have d0 : decide (N < 0) = false:=decide_eq_false (by omega)
     have d1 : decide (8191 < N) = false:=decide_eq_false (by omega)
     have d2 : decide (kd < 0) = false:=decide_eq_false (by omega)
     have d3 : decide (2 < kd) = false:=decide_eq_false (by omega)
     cases k with
     | zero =>
       clear hvr hN hK hA0 hA1 hG0 hG1 hNe hke hae hge
       simp only [Nat.zero_mul,Nat.add_zero] at a0 a1 a2 a3
       go_wp2_with fail
       refine (HFT.out _).mono ?_
       rintro e w1 ⟨rfl,hb1⟩
       have hz1:=hb1.size
       simp at hz1
       have X1:=(hb1.block _ (by simp)).trans (heap_new_at wr (.cells #[.int .i64 N,.int .i64 kd,.int .i64 a,.int .i64 g] 48) _ rfl)
       obtain ⟨z0,z1,z2,z3⟩:=four_of X1
       have hbw1 : Below w.heap.size w w1:=hbr.trans (((Below.refl _ wr).alloc (Nat.le_refl _) (.cells #[.int .i64 N,.int .i64 kd,.int .i64 a,.int .i64 g] 48)).trans (hb1.mono (by simp)) |>.mono hbr.size)
       have hbz1 : Below wr.heap.size wr w1:=((Below.refl _ wr).alloc (Nat.le_refl _) (.cells #[.int .i64 N,.int .i64 kd,.int .i64 a,.int .i64 g] 48)).trans (hb1.mono (by simp))
       clear X1 hb1
       go_wp2
       go_region
       go_wp2
       go_region
       go_wp2
       go_roundw
       case rel => exact ⟨1,by omega,by go_num,hbw1.drew.drew⟩
       case measure => simp [intOf];omega
     | succ j =>
       have hj' : j < l.length:=by omega
       obtain ⟨b',off',e',_,q0,_⟩:=slot_at hvr j hj'
       cases e'
       have hM:=(HL.out j l[j] (List.getElem?_eq_getElem hj')).num
       obtain ⟨M,hMe⟩ : ∃ N,l[j].num = N:=⟨_,rfl⟩
       rw [hMe] at q0 hM
       have wj : IntKind.i64.wrap (j : Int) = j:=IntWalk.i64_in _ (by omega)
       have gj : decide (0 < (j : Int) + 1) = true:=by rw [decide_eq_true_eq];omega
       have d4 : decide (N = M) = false:=decide_eq_false (by omega)
       have d5 : decide (N < M) = false:=decide_eq_false (by omega)
       have d6 : ¬ N = M:=by omega
       clear hvr hN hM hK hA0 hA1 hG0 hG1 hNe hke hae hge hMe
       go_wp2_with fail
       refine (HFT.out _).mono ?_
       rintro e w1 ⟨rfl,hb1⟩
       have hz1:=hb1.size
       simp at hz1
       have X1:=(hb1.block _ (by simp)).trans (heap_new_at wr (.cells #[.int .i64 N,.int .i64 kd,.int .i64 a,.int .i64 g] 48) _ rfl)
       obtain ⟨z0,z1,z2,z3⟩:=four_of X1
       have hbw1 : Below w.heap.size w w1:=hbr.trans (((Below.refl _ wr).alloc (Nat.le_refl _) (.cells #[.int .i64 N,.int .i64 kd,.int .i64 a,.int .i64 g] 48)).trans (hb1.mono (by simp)) |>.mono hbr.size)
       have hbz1 : Below wr.heap.size wr w1:=((Below.refl _ wr).alloc (Nat.le_refl _) (.cells #[.int .i64 N,.int .i64 kd,.int .i64 a,.int .i64 g] 48)).trans (hb1.mono (by simp))
       clear X1 hb1
       have pj : w1.cell? ⟨b,off + j * 4,none⟩ = some (.int .i64 M):=(World.cell?_of_block (a:=⟨b,off + j * 4,none⟩) (hbz1.block b hblt)).trans q0
       go_wp2
       go_region
       go_wp2
       go_region
       go_wp2
       go_roundw
       case rel => exact ⟨j + 2,by omega,by go_num,hbw1.drew.drew⟩
       case measure => simp [intOf];omega
   · go_wp2
     go_ret
     exact ⟨rfl,hbr⟩
theorem set_any {w : World} {b o : Nat} {t : TypeId} {cur : Array Value} {v : Value} (h : w.heap[b]? = some (.cells cur t (0, 0))) :
   (w.setCell ⟨b,o,none⟩ v).heap[b]? = some (.cells (cur.setIfInBounds o v) t (0,0)):=by
 have hlt:=lt_of_block h
 have h' : w.heap[b] = .cells cur t (0,0):=by simpa [Array.getElem?_eq_getElem hlt] using h
 simp only [World.setCell,Array.getElem?_modify]
 simp [h',Array.getElem?_eq_getElem hlt]
def RunAt (w : World) (B : Nat) (v : Value) (k : Nat) : Prop:=(k = 0 ∧ v = .slice none 0 0) ∨
 (0 < k ∧ ∃ g c cur,v = .slice (some ⟨g,0,none⟩) 1 c ∧ B ≤ g ∧ w.heap[g]? = some (.cells cur 119 (0,0)) ∧ cur[0]? = some (.int .i64 0) ∧ cur[1]? = some (.int .i64 k))
theorem truns_in (v : Value) (l : List Sl) (w : World) (hv : RArg slE w v l) (hl : SlotsOk l) :
   Calls Tryz.prog 90 #[v] w fun e w' => ∃ r,e = .returned r ∧ RunAt w' w.heap.size r l.length ∧ Below w.heap.size w w':=by
 obtain ⟨p,cp,rfl,_⟩:=id hv
 obtain ⟨n,hn⟩ : ∃ n,l.length = n:=⟨_,rfl⟩
 have HV:=Lh hv
 have HN:=Lh hn
 have HL:=Lh hl.2
 have hn1 : n ≤ 8192:=by have:=hl.1;omega
 rw [hn] at HV
 rw [hn]
 clear hv hn hl
 go_enter Tryz.func90,Tryz.ntmps90
 go_wp2
 go_loopw [3,8] (fun r i wr => ∃ k : Nat,k ≤ n ∧ i = .int .i64 k ∧ Hid (RunAt wr w.heap.size r k) ∧ Below w.heap.size w wr) (fun _ i _ => n - (intOf i).toNat)
 case atStart => exact ⟨0,Nat.zero_le _,rfl,Lh (.inl ⟨rfl,rfl⟩),Below.refl _ _⟩
 case round =>
   obtain ⟨k,hk,rfl,HR,hbr⟩:=hrel
   have hzr:=hbr.size
   by_cases hlk : k < n
   · have hvr : RArg slE wr (.slice p n cp) l:=HV.out.below hbr
     have hk' : k < l.length:=by rw [HN.out];exact hlk
     obtain ⟨b,off,rfl,hblt,a0,a1,a2,a3⟩:=slot_at hvr k hk'
     obtain ⟨hN,_,_,_,_,_,_⟩:=HL.out k l[k] (List.getElem?_eq_getElem hk')
     obtain ⟨N,hNe⟩ : ∃ N,l[k].num = N:=⟨_,rfl⟩
     obtain ⟨kd,hke⟩ : ∃ N,l[k].kind = N:=⟨_,rfl⟩
     obtain ⟨a,hae⟩ : ∃ N,l[k].a = N:=⟨_,rfl⟩
     obtain ⟨g,hge⟩ : ∃ N,l[k].b = N:=⟨_,rfl⟩
     rw [hNe] at a0 hN
     rw [hke] at a1
     rw [hae] at a2
     rw [hge] at a3
     have hbne : ¬ b = wr.heap.size:=by omega
     cases k with
     | zero =>
       obtain ⟨_,rfl⟩ | ⟨h0,_⟩:=HR.out
       rotate_left
       · omega
       simp only [Nat.zero_mul,Nat.add_zero] at a0 a1 a2 a3
       have HNN:=Lh hN
       clear hvr hN hNe hke hae hge HR
       go_wp2
       go_region
       go_wp2
       go_roundw
       case rel => exact ⟨1,by omega,by go_num,Lh (.inr ⟨by decide,wr.heap.size + 1 + 1,_,_,rfl,by omega,heap_new_at _ _ _ (by simp),by rw [Array.getElem?_append_left (by simp)];simp [HNN.out],by rw [Array.getElem?_append_left (by simp)];simp⟩),bel⟩
       case measure => simp [intOf];omega
     | succ j =>
       obtain ⟨h0,_⟩ | ⟨_,g2,c2,cur,rfl,hgB,hgh,e0,e1⟩:=HR.out
       · omega
       have hj' : j < l.length:=by omega
       have hjn : j < n:=by omega
       have hj1 : j + 1 < n:=by omega
       obtain ⟨b',off',e',_,q0,_⟩:=slot_at hvr j hj'
       cases e'
       have hM:=(HL.out j l[j] (List.getElem?_eq_getElem hj')).num
       obtain ⟨M,hMe⟩ : ∃ N,l[j].num = N:=⟨_,rfl⟩
       rw [hMe] at q0 hM
       have d4 : decide (M < N) = true:=decide_eq_true (by omega)
       have wM : IntKind.i64.wrap (N - 1) = M:=by rw [IntWalk.i64_in _ (by omega)];omega
       have wj : IntKind.i64.wrap (j : Int) = j:=IntWalk.i64_in _ (by omega)
       have wj2 : IntKind.i64.wrap ((j : Int) + 1 + 1) = (j : Int) + 1 + 1:=IntWalk.i64_in _ (by omega)
       have gj : decide (0 < (j : Int) + 1) = true:=by rw [decide_eq_true_eq];omega
       have hglt : g2 < wr.heap.size:=lt_of_block hgh
       have hgne : ¬ g2 = wr.heap.size:=by omega
       have c1 : wr.cell? ⟨g2,1,none⟩ = some (.int .i64 ((j : Int) + 1)):=by simp [World.cell?,hgh,e1]
       have c1f : wr.frozen? ⟨g2,1,none⟩ = false:=by simp [World.frozen?,hgh]
       have HG:=Lh (And.intro hgh (And.intro e0 e1))
       clear hvr hN hM hNe hke hae hge hMe HR hgh e0 e1
       go_wp2
       go_region
       go_wp2
       go_region
       go_wp2
       go_roundw
       case rel =>
         refine ⟨j + 2,by omega,by go_num,Lh (.inr ⟨by omega,g2,c2,cur.setIfInBounds 1 (.int .i64 ((j : Int) + 1 + 1)),rfl,hgB,?_,?_,?_⟩),bel⟩
         · exact (Below.heap_alloc _ _ _ (by simpa [World.setCell] using hglt)).trans (set_any HG.out.1)
         · rw [Array.getElem?_setIfInBounds_ne (by decide)];exact HG.out.2.1
         · rw [Array.getElem?_setIfInBounds_self_of_lt (Array.getElem?_eq_some_iff.1 HG.out.2.2).1];rfl
       case measure => simp [intOf];omega
   · obtain rfl : k = n:=by omega
     go_wp2
     go_ret
     exact ⟨_,rfl,HR.out,hbr⟩
def bldF (w : World) (B : Nat) (l : L) : Prop:=Lib.IsBuilderF 100 5 B B (Lib.byteCells l) w
theorem bldF_of {w : World} {B : Nat} {l : L} (h : bldB w B l) : bldF w B l:=h.elim (fun h => .inl (Lib.BuilderAtF.of h)) (fun h => .inr (Lib.BuilderAtF.of h))
theorem bldF_fresh (w : World) : bldF (w.alloc (.cells #[.pointer none,.slice none 0 0] 100)) w.heap.size []:=bldF_of (bldB_fresh w)
theorem bldF_below {w w' : World} {B : Nat} {l : L} (h : bldF w B l) (hb : Below w.heap.size w w') : bldF w' B l:=by
 have key : ∀ p,Lib.BuilderAtF 100 5 B B p (Lib.byteCells l) w → Lib.BuilderAtF 100 5 B B p (Lib.byteCells l) w':=by
   rintro p h
   have hlt:=h.lt
   obtain ⟨hB,v,hv,hown,hne⟩:=h
   exact ⟨hB,v,(hb.block _ hlt).trans hv,hown.kept (row:=none) ⟨hb.os,hb.tape,hb.output,hb.size,fun k hk _ => hb.block k hk⟩ (Classical.em _),hne⟩
 rcases h with h | h
 · exact .inl (key _ h)
 · exact .inr (key _ h)
theorem bldF_lt {w : World} {B : Nat} {l : L} (h : bldF w B l) : B < w.heap.size:=h.elim (fun h => h.lt) (fun h => h.lt)
theorem blf_str (B : Nat) (l : L) (s : ByteArray) (w : World) (h : bldF w B l) (hl : l.length + s.size ≤ 140737488355328) (hB : B ≤ w.heap.size) :
   Calls Tryz.prog 52 #[.pointer (some ⟨B,0,none⟩),.string s] w fun e w' => e = .returned (.tuple #[.int .i64 s.size,.nilIface]) ∧ bldF w' B (l ++ s.data.toList) ∧ Below B w w' ∧ Lib.OthersKept 5 (some B) w w':=by
 refine (Any.Builder_WriteString_k Tryz.lays166 Tryz.Builder_Extra_166 B B _ s w h (by rw [Lib.byteCells_length];exact hl) hB).mono fun e w' ⟨h1,h2,h3,h4⟩ => ⟨h1,.inr ?_,h3,h4⟩
 have h2' : Lib.BuilderAtF 100 5 B B (.pointer (some ⟨B,0,none⟩)) (Lib.byteCells l ++ Lib.strCells s) w':=h2
 simpa [Lib.byteCells,Lib.strCells] using h2'
theorem blf_get (B : Nat) (l : L) (w : World) (h : bldF w B l) (hB : B ≤ w.heap.size) :
   Calls Tryz.prog 54 #[.pointer (some ⟨B,0,none⟩)] w fun e w' => e = .returned (.string ⟨l.toArray⟩) ∧ Below B w w' :=
 (Tryz.Builder_String_any_k B B l w h hB).mono fun _ _ ⟨h1,_,h3,_⟩ => ⟨h1,h3⟩
open Go.RowKit Go.Shelf Fo
theorem fcheck_fresh (fb : Nat) (v m : Value) (w : World) (h : w.heap[fb]? = some (.cells #[.pointer none, v, m] 103 (0, 0))) :
   Calls Tryz.prog 93 #[.pointer (some ⟨fb,0,none⟩)] w fun e w' => e = .returned (.tuple #[]) ∧ w' = w.setCell ⟨fb,0,none⟩ (.pointer (some ⟨fb,0,none⟩)):=by
 have c0 : w.cell? ⟨fb,0,none⟩ = some (.pointer none):=by simp [World.cell?,h]
 have f0 : w.frozen? ⟨fb,0,none⟩ = false:=by simp [World.frozen?,h]
 have hs : w.shape? fb = some (103,3):=by simp [World.shape?,h]
 go_enter Tryz.func93,Tryz.ntmps93
 have L : Lays.n240 Tryz.prog Tryz.lays166_ren:={ Tryz.lays166 with }
 obtain ⟨j,hj,hjs⟩:=Option.map_eq_some_iff.1 Tryz.Builder_Extra_166.toX72.sizeBuilder
 have q97 : Tryz.prog.underlying 97 = some (.pointer 100):=Tryz.underlying97
 have q173 : Tryz.prog.underlying 173 = some .unsafePointer:=Tryz.underlying173
 have hj' : Tryz.prog.info? 100 = some j:=hj
 have e150:=Tryz.func150
 have hlies : liesAt Tryz.prog Tryz.prog.depth 103 (3 / Tryz.prog.cellsOf 103) 0 100 1 = true:=by kernel_rfl
 go_wp2
 rw [Lib.run_to_unsafe w ⟨fb,0,none⟩ q97 q173 hj' (by rw [hjs];decide) hs (Nat.zero_lt_succ 2)]
 simp only [Result.andThen]
 rw [Oper.upon_value]
 go_wp2
 rw [run_callFunc_extern e150 (by kernel_rfl) (by kernel_rfl) (by kernel_rfl) (e:=Extern.AbiNoEscape.same) (by kernel_rfl)]
 rw [Lib.run_noEscape]
 simp only [Result.andThen]
 rw [Oper.upon_value]
 go_wp2
 rw [Lib.run_from_unsafe w ⟨fb,0,none⟩ q173 q97 hj' hs hlies]
 simp only [Result.andThen]
 rw [Oper.upon_value]
 go_wp2
 go_end0
 exact ⟨rfl,rfl⟩
def fileB (w : World) (B fb mb : Nat) (l : L) : Prop:=B ≤ fb ∧ ∃ p v,(p = .pointer none ∨ p = .pointer (some ⟨fb,0,none⟩)) ∧ w.heap[fb]? = some (.cells #[p,v,.map (some mb)] 103 (0,0)) ∧
 w.ownsRowF B 5 1 v l.length (Lib.byteCells l) ∧ v.ownBlock ≠ some fb
theorem fileB_lt {w : World} {B fb mb : Nat} {l : L} (h : fileB w B fb mb l) : fb < w.heap.size:=by
 obtain ⟨_,p,v,_,h,_⟩:=h
 exact lt_of_block h
theorem fileB_below {w w' : World} {B fb mb : Nat} {l : L} (h : fileB w B fb mb l) (hb : Below w.heap.size w w') : fileB w' B fb mb l:=by
 have hlt:=fileB_lt h
 obtain ⟨h0,p,v,h1,h2,h3,h4⟩:=h
 exact ⟨h0,p,v,h1,(hb.block fb hlt).trans h2,h3.kept (row:=none) ⟨hb.os,hb.tape,hb.output,hb.size,fun k hk _ => hb.block k hk⟩ (Classical.em _),h4⟩
theorem fcheck_in (fb mb : Nat) (p v : Value) (w : World) (hp : p = .pointer none ∨ p = .pointer (some ⟨fb, 0, none⟩)) (h : w.heap[fb]? = some (.cells #[p, v, .map (some mb)] 103 (0, 0))) :
   Calls Tryz.prog 93 #[.pointer (some ⟨fb,0,none⟩)] w fun e w' => e = .returned (.tuple #[]) ∧ (w' = w ∨ w' = w.setCell ⟨fb,0,none⟩ (.pointer (some ⟨fb,0,none⟩))) ∧
     w'.heap[fb]? = some (.cells #[.pointer (some ⟨fb,0,none⟩),v,.map (some mb)] 103 (0,0)):=by
 rcases hp with rfl | rfl
 · refine (fcheck_fresh fb v _ w h).mono ?_
   rintro e w' ⟨rfl,rfl⟩
   exact ⟨rfl,.inr rfl,by rw [set_any h];rfl⟩
 · refine (Any.Builder_copyCheck_used (P:=Tryz.prog) (ρ:=Tryz.lays166_ren) { Tryz.lays166 with } Tryz.Builder_Extra_166.toX72 fb w (by simp [World.cell?,h])).mono ?_
   rintro e w' ⟨rfl,rfl⟩
   exact ⟨rfl,.inl rfl,h⟩
theorem fstr_in (B fb mb : Nat) (l : L) (s : ByteArray) (w : World) (h : fileB w B fb mb l) (hlen : l.length + s.size ≤ 140737488355328) (hBw : B ≤ w.heap.size) :
   Calls Tryz.prog 52 #[.pointer (some ⟨fb,0,none⟩),.string s] w fun e w' => e = .returned (.tuple #[.int .i64 s.size,.nilIface]) ∧ fileB w' B fb mb (l ++ s.data.toList) ∧ Below B w w' ∧ Lib.OthersKept 5 (some fb) w w':=by
 obtain ⟨i0,hi,hz0,hz1,hz2⟩:=info_parts Tryz.Builder_Extra_166.infoByte
 have hi' : Tryz.prog.info? 5 = some i0:=hi
 obtain ⟨hB,p,v,hp,hbk,hown,hne⟩:=h
 have HCK:=Lh (fcheck_in fb mb p v w hp hbk)
 have hbl : (Lib.byteCells l).length = l.length:=Lib.byteCells_length l
 go_enter Tryz.func52,Tryz.ntmps52
 go_wp2_with fail
 refine HCK.out.mono ?_
 rintro e w1 ⟨rfl,hw1,hbk1⟩
 have hb1 : Below B w w1:=by
   rcases hw1 with rfl | rfl
   · exact Below.refl _ _
   · exact (Below.refl B w).setCell (p:=⟨fb,0,none⟩) hB _
 have hk1 : Lib.OthersKept 5 (some fb) w w1:=by
   rcases hw1 with rfl | rfl
   · exact Lib.OthersKept.refl _ _ _
   · exact (Lib.OthersKept.refl _ _ w).setCell ⟨fb,0,none⟩ rfl _
 have hown1 : w1.ownsRowF B 5 1 v l.length (Lib.byteCells l):=by
   rcases hw1 with rfl | rfl
   · exact hown
   · exact hown.kept (row:=some fb) ⟨rfl,rfl,rfl,by simp [World.setCell],fun k _ hk => Below.heap_setCell _ _ _ _ (fun e => hk (by simp [e]))⟩ (Or.inr hne)
 have c1 : w1.cell? ⟨fb,1,none⟩ = some v:=by simp [World.cell?,hbk1]
 have c0 : w1.cell? ⟨fb,0,none⟩ = some (.pointer (some ⟨fb,0,none⟩)):=by simp [World.cell?,hbk1]
 clear HCK hw1
 go_wp2_with (at_builtin;refine Lib.wpList_append_own_stringF _ rfl _ _ 98 9 rfl B 5 i0 Tryz.underlying98 Tryz.underlying9 hi' hz0 hz1 hz2 _ _ _ rfl hown1 s rfl ?c3 ?c4 ?c5 ?_)
 case c3 => unfold maxLen;omega
 case c4 => omega
 case c5 => have:=hb1.size;omega
 intro v' w2 hown' hgrow _
 have hlt : fb < w1.heap.size:=lt_of_block hbk1
 have hb2 : w2.heap[fb]? = some (.cells #[.pointer (some ⟨fb,0,none⟩),v,.map (some mb)] 103 (0,0)):=by
   rw [hgrow.block fb hlt (fun e => hne e.symm)]
   exact hbk1
 have d1 : w2.cell? ⟨fb,1,none⟩ = some v:=by simp [World.cell?,hb2]
 have f1 : w2.frozen? ⟨fb,1,none⟩ = false:=by simp [World.frozen?,hb2]
 obtain ⟨ao,n',cap,rfl⟩ : ∃ ao n' cap,v' = .slice ao n' cap:=by
   rcases hown'.2 with ⟨hv,_⟩ | ⟨g,cap,cur,fz,hv,_⟩
   · exact ⟨_,_,_,hv⟩
   · exact ⟨_,_,_,hv⟩
 go_wp2
 go_ret2
 have hne':=Lib.ownBlock_neF hown' hb2 (by decide)
 have e1 : (l ++ s.data.toList).length = l.length + s.size:=by rw [List.length_append];simp
 have e2 : Lib.byteCells (l ++ s.data.toList) = Lib.byteCells l ++ Lib.strCells s:=by simp [Lib.byteCells,Lib.strCells]
 refine ⟨rfl,⟨hB,_,_,.inr rfl,by rw [set_any hb2];rfl,?_,hne'⟩,?_,(hk1.grown hgrow (Lib.ownsRowF_kind hown1)).setCell ⟨fb,1,none⟩ rfl _⟩
 · rw [e1,e2]
   exact hown'.kept (row:=some fb) ⟨rfl,rfl,rfl,by simp [World.setCell],fun k _ hk => Below.heap_setCell _ _ _ _ (fun e => hk (by simp [e]))⟩ (Or.inr hne')
 · exact (hb1.grown hgrow (by have:=hb1.size;omega) (fun k hk => (hown1.lt k hk).1)).setCell (p:=⟨fb,1,none⟩) hB _
theorem flen_in (B fb mb : Nat) (l : L) (w : World) (h : fileB w B fb mb l) (hl : l.length ≤ 140737488355328) :
   Calls Tryz.prog 50 #[.pointer (some ⟨fb,0,none⟩)] w fun e w' => e = .returned (.int .i64 l.length) ∧ w' = w:=by
 obtain ⟨hB,p,v,hp,hbk,hown,hne⟩:=h
 obtain ⟨ao,cap,rfl⟩ : ∃ ao cap,v = .slice ao l.length cap:=by
   rcases hown.2 with ⟨hv,h0⟩ | ⟨g,cap,cur,fz,hv,_⟩
   · exact ⟨none,0,by rw [hv,h0]⟩
   · exact ⟨_,_,hv⟩
 have c1 : w.cell? ⟨fb,1,none⟩ = some (.slice ao l.length cap):=by simp [World.cell?,hbk]
 go_enter Tryz.func50,Tryz.ntmps50
 go_wp2
 go_ret
 exact ⟨rfl,rfl⟩
theorem fget_in (B fb mb : Nat) (l : L) (h0 : l ≠ []) (w : World) (h : fileB w B fb mb l) :
   Calls Tryz.prog 54 #[.pointer (some ⟨fb,0,none⟩)] w fun e w' => e = .returned (.string ⟨l.toArray⟩) ∧ Below B w w' ∧ Lib.OthersKept 5 (some fb) w w':=by
 obtain ⟨hB,p,v,hp,hbk,hown,hne⟩:=h
 have hl0 : l.length ≠ 0:=by simpa using h0
 obtain ⟨g,cap,cur,fz,rfl,hbg,hg,hfz,hnc,hcm,hcs,htake⟩ : ∃ g cap cur fz,v = .slice (some ⟨g,0,none⟩) l.length cap ∧ B ≤ g ∧ w.heap[g]? = some (.cells cur 5 fz) ∧ fz.2 ≤ l.length * 1 ∧ l.length ≤ cap ∧ cap ≤ maxLen ∧ cur.size = cap * 1 ∧ cur.toList.take (l.length * 1) = Lib.byteCells l:=by
   rcases hown.2 with ⟨_,hz⟩ | ⟨g,cap,cur,fz,hv,r⟩
   · exact absurd hz hl0
   · exact ⟨g,cap,cur,fz,hv,r⟩
 have c1 : w.drew.cell? ⟨fb,1,none⟩ = some (.slice (some ⟨g,0,none⟩) l.length cap):=by
   have : w.drew.heap[fb]? = some (.cells #[p,.slice (some ⟨g,0,none⟩) l.length cap,.map (some mb)] 103 (0,0)):=hbk
   rw [Lib.cell_of_heap this];rfl
 have hSD : (Builtin.unsafeSliceData_ #[98] 134 #[.slice (some ⟨g,0,none⟩) l.length cap]).run Tryz.prog w.drew = .ok (.pointer (some ⟨g,0,none⟩)) w.drew :=
   Lib.run_unsafeSliceData_row _ _ _ _ _ _ (by omega)
 have hUS : (Builtin.unsafeString_ #[134,3] 9 #[.pointer (some ⟨g,0,none⟩),.int .i64 l.length]).run Tryz.prog w.drew = .ok (.string ⟨l.toArray⟩) (w.drew.freeze ⟨g,0,none⟩ l.length):=by
   refine Lib.run_unsafeString_row w.drew 134 3 9 5 Tryz.underlying134 Tryz.Builder_Extra_166.cellsByte g cur.size (by have hg' : w.drew.heap[g]? = some (.cells cur 5 fz):=hg;simp [World.shape?,hg']) l h0 (by omega) (by unfold maxLen at hcm;omega) ?_
   intro j x hx
   have:=hown.cells (g:=g) rfl j (.int .u8 x.toNat) (by simp [Lib.byteCells,hx])
   exact this
 have mixed:=Tryz.lays169.mixed
 go_enter Tryz.func54,Tryz.ntmps54
 go_wp2
 go_region_o
 all_goals (go_wp2;go_ret;exact ⟨rfl,Lib.below_freeze (Below.drew (Below.refl B w)) (p:=⟨g,0,none⟩) hbg _,((Lib.OthersKept.refl _ _ w).drew).freeze _ _ ⟨_,_,hg⟩⟩)
open Go.RowKit Fo Go.Maps
theorem Tryz.infoSl : (Tryz.prog.info? 48).map (fun i => (i.zero,i.size,i.bytes)) = some (some (slV ⟨0,0,0,0⟩),4,32):=by kernel_rfl
def slotV (ps : List Sl) (most n : Nat) : Sl :=
 match ps.find? (fun x => x.num == (n : Int)) with
 | some x => x
 | none => ⟨n,0,freeA ps most n,0⟩
def Laid (w : World) (g : Nat) (ps : List Sl) (most n : Nat) : Prop:=∃ cur,w.heap[g]? = some (.cells cur 48 (0,0)) ∧ cur.size = (most + 1) * 4 ∧
 ∀ j,n ≤ j → j ≤ most → ∀ i u,(slE.cells (slotV ps most j))[i]? = some u → cur[j * 4 + i]? = some u
theorem laid_put {w : World} {g most j : Nat} {ps : List Sl} {cur : Array Value} (h1 : w.heap[g]? = some (.cells cur 48 (0, 0))) (h2 : cur.size = (most + 1) * 4)
   (h3 : ∀ k,j + 1 ≤ k → k ≤ most → ∀ i u,(slE.cells (slotV ps most k))[i]? = some u → cur[k * 4 + i]? = some u) (hj : j ≤ most) {a b c d : Int} (hx : slotV ps most j = ⟨a,b,c,d⟩) :
   Laid ((((w.setCell ⟨g,j * 4,none⟩ (.int .i64 a)).setCell ⟨g,j * 4 + 1,none⟩ (.int .i64 b)).setCell ⟨g,j * 4 + 2,none⟩ (.int .i64 c)).setCell ⟨g,j * 4 + 3,none⟩ (.int .i64 d)) g ps most j:=by
 refine ⟨_,set_any (set_any (set_any (set_any h1))),by simp [h2],fun k hk hkm i u hu => ?_⟩
 by_cases e : k = j
 · subst e
   rw [hx] at hu
   have hi : i < 4:=(List.getElem?_eq_some_iff.1 hu).1
   have h4 : i = 0 ∨ i = 1 ∨ i = 2 ∨ i = 3:=by omega
   rcases h4 with rfl | rfl | rfl | rfl <;> simp [slE] at hu <;> subst hu <;> simp [Array.getElem?_setIfInBounds,h2] <;> omega
 · have:=h3 k (by omega) hkm i u hu
   have hi : i < 4:=by
     have:=(List.getElem?_eq_some_iff.1 hu).1
     simpa [slE] using this
   rw [Array.getElem?_setIfInBounds_ne (by omega),Array.getElem?_setIfInBounds_ne (by omega),Array.getElem?_setIfInBounds_ne (by omega),Array.getElem?_setIfInBounds_ne (by omega)]
   exact this
theorem row_done {w : World} {g most B : Nat} {ps : List Sl} {cur : Array Value} (h1 : w.heap[g]? = some (.cells cur 48 (0, 0))) (h2 : cur.size = (most + 1) * 4)
   (h3 : ∀ k,0 ≤ k → k ≤ most → ∀ i u,(slE.cells (slotV ps most k))[i]? = some u → cur[k * 4 + i]? = some u) (hp0 : ps.find? (fun x => x.num == 0) = none) (hm : most ≤ 8191) (hB : B ≤ g) :
   rownS slE 48 (w.setCell ⟨g,3,none⟩ (.int .i64 65535)) B (.slice (some ⟨g,0,none⟩) (most + 1) (most + 1)) (slotsW ps most):=by
 unfold rownS
 refine ⟨Enc.row_length _ _,.inr ⟨g,most + 1,_,by rw [slotsW_len],hB,set_any h1,by rw [slotsW_len];exact Nat.le_refl _,by unfold maxLen;omega,by simp only [Array.size_setIfInBounds,h2];rfl,?_⟩⟩
 rw [slotsW_len]
 refine List.ext_getElem? fun i => ?_
 by_cases hi : i < (most + 1) * 4
 · rw [List.getElem?_take_of_lt (show i < (most + 1) * slE.k from hi),Array.getElem?_toList]
   have hq : i / 4 ≤ most:=by omega
   have hr : (slE.row (slotsW ps most))[i]? = (slE.cells (slotW ps most (i / 4)))[i % 4]?:=by
     have:=slE.row_at (slotsW ps most) (i / 4) (by rw [slotsW_len];omega) (i % 4) (Nat.mod_lt _ (by decide))
     rw [slotsW_at] at this
     rw [← this]
     congr 1
     show i = i / 4 * 4 + i % 4
     omega
   rw [hr]
   by_cases h3' : i = 3
   · subst h3'
     rw [Array.getElem?_setIfInBounds_self_of_lt (by omega)]
     have e : slotW ps most 0 = ⟨0,0,freeA ps most 0,65535⟩:=by
       unfold slotW
       rw [show ps.find? (fun x => x.num == ((0 : Nat) : Int)) = none from hp0];rfl
     show _ = (slE.cells (slotW ps most 0))[3]?
     rw [e];rfl
   · rw [Array.getElem?_setIfInBounds_ne (by omega)]
     have hlt : i % 4 < (slE.cells (slotV ps most (i / 4))).length:=Nat.mod_lt _ (by decide)
     have:=h3 (i / 4) (Nat.zero_le _) hq (i % 4) _ (List.getElem?_eq_getElem hlt)
     rw [show i / 4 * 4 + i % 4 = i by omega] at this
     rw [this,← List.getElem?_eq_getElem hlt]
     unfold slotV slotW
     cases ps.find? (fun x => x.num == ((i / 4 : Nat) : Int)) with
     | some x => rfl
     | none =>
       by_cases h0 : i / 4 = 0
       · have h4 : i % 4 = 0 ∨ i % 4 = 1 ∨ i % 4 = 2:=by omega
         rcases h4 with h4 | h4 | h4 <;> rw [h4] <;> rfl
       · simp only [if_neg h0]
 · rw [List.getElem?_eq_none (by rw [List.length_take];show min ((most + 1) * 4) _ ≤ i;omega),List.getElem?_eq_none (by rw [Enc.row_length,slotsW_len];show (most + 1) * 4 ≤ i;omega)]
theorem Laid.alloc {w : World} {g most j : Nat} {ps : List Sl} (h : Laid w g ps most j) (o : Obj) : Laid (w.alloc o) g ps most j:=by
 obtain ⟨cur,h1,h2⟩:=h
 exact ⟨cur,(Below.heap_alloc _ _ _ (lt_of_block h1)).trans h1,h2⟩
theorem slots_in (fb mb nn most : Nat) (ps : List Sl) (w : World) (hm : most ≤ 8191) (hf : w.cell? ⟨fb, 2, none⟩ = some (.map (some mb))) (hfb : fb < w.heap.size) (hMp : MpS w mb nn ps) (hp0 : ps.find? (fun x => x.num == 0) = none) :
   Calls Tryz.prog 47 #[.pointer (some ⟨fb,0,none⟩),.int .i64 most] w fun e w' =>
     ∃ p c,e = .returned (.slice p (most + 1) c) ∧ most + 1 ≤ c ∧ rownS slE 48 w' w.heap.size (.slice p (most + 1) c) (slotsW ps most) ∧ Below w.heap.size w w':=by
 have HM:=Lh hMp
 have g1 : IntKind.i64.wrap ((most : Int) + 1) = (most : Int) + 1:=IntWalk.i64_in _ (by omega)
 have g2 : (0 : Int) ≤ (most : Int) + 1:=by omega
 clear hMp
 go_enter Tryz.func47,Tryz.ntmps47
 obtain ⟨i0,hi0,y0,y1,y2⟩:=info_parts Tryz.infoSl
 have hb88 : i0.bytes * (most + 1) ≤ 281474976710656:=by rw [y2];omega
 go_wp2_with (at_make;go_must (refine wpList_make_full _ rfl _ _ 34 rfl w.heap.size 48 i0 (slV ⟨0,0,0,0⟩) 4 Tryz.underlying34 hi0 y0 y1 .i64 .i64 ((most : Int) + 1) ((most : Int) + 1) (most + 1) rfl rfl (by omega) (by omega) hb88 (by unfold maxLen;omega) (by omega) ?_);intro w5 own5 hg5)
 obtain ⟨hxl,⟨h1,_⟩ | ⟨g,cap,cur,h1,h2,h3,h4,h5,h6,h7⟩⟩:=own5
 · cases h1
 obtain ⟨rfl,hcap⟩ : w.heap.size = g ∧ most + 1 = cap:=by cases h1;exact ⟨rfl,rfl⟩
 subst hcap
 have HL0:=Lh (show Laid w5 w.heap.size ps most (most + 1) from ⟨cur,h3,h6,fun j h1 h2 => by omega⟩)
 have hb5 : Below w.heap.size w w5:=(Below.refl _ _).grown hg5 (by omega) (fun k h => by cases h)
 clear hxl h1 h2 h3 h4 h5 h6 h7 hg5 hi0 y0 y1 y2 hb88
 go_loopw [6,7] (fun nx n wr => ∃ k : Nat,k ≤ most + 1 ∧ n = .int .i64 ((k : Int) - 1) ∧ (∃ q : Nat,nx = .int .i64 q ∧ (0 < k → q = freeA ps most (k - 1)) ∧ q ≤ 8191) ∧ Hid (Laid wr w.heap.size ps most k) ∧ Below w.heap.size w wr) (fun _ n _ => ((intOf n) + 1).toNat)
 case atStart => exact ⟨most + 1,Nat.le_refl _,by simp,⟨0,rfl,fun _ => by simp [freeA],by omega⟩,HL0,hb5⟩
 case round =>
   clear HL0 hb5
   obtain ⟨k,hk,rfl,⟨q,rfl,hq,hq2⟩,HLA,hbr⟩:=hrel
   have hf' : wr.cell? ⟨fb,2,none⟩ = some (.map (some mb)):=(World.cell?_of_block (a:=⟨fb,2,none⟩) (hbr.block fb hfb)).trans hf
   have hzr:=hbr.size
   cases k with
   | zero =>
     have d0 : decide ((0 : Int) ≤ ((0 : Nat) : Int) - 1) = false:=by decide
     obtain ⟨cur,hc1,hc2,hc3⟩:=HLA.out
     obtain ⟨v3,hv3⟩ : ∃ v,cur[3]? = some v:=⟨_,Array.getElem?_eq_getElem (by omega)⟩
     have c3 : wr.cell? ⟨w.heap.size,3,none⟩ = some v3:=by simp [World.cell?,hc1,hv3]
     have f3 : wr.frozen? ⟨w.heap.size,3,none⟩ = false:=by simp [World.frozen?,hc1]
     have gm : decide ((0 : Int) < (most : Int) + 1) = true:=by rw [decide_eq_true_eq];omega
     have HC:=Lh (And.intro hc1 (And.intro hc2 hc3))
     clear hc1 hc2 hc3 HLA hv3
     go_wp2
     go_ret
     exact ⟨_,_,rfl,Nat.le_refl _,row_done HC.out.1 HC.out.2.1 HC.out.2.2 hp0 hm (Nat.le_refl _),bel⟩
   | succ j =>
     have ej : (((j + 1 : Nat) : Int) - 1) = (j : Int):=by omega
     rw [ej]
     have d0 : decide ((0 : Int) ≤ (j : Int)) = true:=by simp
     have hMr : MpS wr mb nn ps:=HM.out.below (hbr.mono (Nat.le_refl _))
     obtain ⟨x,hlook,hx⟩:=hMr.look (j : Int) (by omega) (by omega)
     obtain ⟨x1,x2,x3,x4⟩:=x
     unfold slV at hlook
     cases hfnd : ps.find? (fun y => y.num == (j : Int)) with
     | some y =>
       have hy:=hx y hfnd
       rw [hfnd] at hlook
       have hlook' : (Instr.lookup 101 (.map (some mb)) (.int .i64 j) true).run Tryz.prog wr = .ok (.tuple #[.agg #[.int .i64 x1,.int .i64 x2,.int .i64 x3,.int .i64 x4],.bool true]) wr:=hlook
       obtain ⟨cur,hc1,hc2,hc3⟩:=HLA.out
       have hglt:=lt_of_block hc1
       have hj : j ≤ most:=by omega
       obtain ⟨v0,hv0⟩ : ∃ v,cur[j * 4]? = some v:=⟨_,Array.getElem?_eq_getElem (by omega)⟩
       obtain ⟨v1,hv1⟩ : ∃ v,cur[j * 4 + 1]? = some v:=⟨_,Array.getElem?_eq_getElem (by omega)⟩
       obtain ⟨v2,hv2⟩ : ∃ v,cur[j * 4 + 2]? = some v:=⟨_,Array.getElem?_eq_getElem (by omega)⟩
       obtain ⟨v3,hv3⟩ : ∃ v,cur[j * 4 + 3]? = some v:=⟨_,Array.getElem?_eq_getElem (by omega)⟩
       have c0 : wr.cell? ⟨w.heap.size,j * 4,none⟩ = some v0:=by simp [World.cell?,hc1,hv0]
       have c1 : wr.cell? ⟨w.heap.size,j * 4 + 1,none⟩ = some v1:=by simp [World.cell?,hc1,hv1]
       have c2 : wr.cell? ⟨w.heap.size,j * 4 + 2,none⟩ = some v2:=by simp [World.cell?,hc1,hv2]
       have c3 : wr.cell? ⟨w.heap.size,j * 4 + 3,none⟩ = some v3:=by simp [World.cell?,hc1,hv3]
       have ff : ∀ o,wr.frozen? ⟨w.heap.size,o,none⟩ = false:=by intro o;simp [World.frozen?,hc1]
       have hne : ¬ w.heap.size = wr.heap.size:=by omega
       have gj : decide ((j : Int) < (most : Int) + 1) = true:=by rw [decide_eq_true_eq];omega
       have gj2 : (j : Int) < (most : Int) + 1:=by omega
       have wj : IntKind.i64.wrap ((j : Int) - 1) = (j : Int) - 1:=IntWalk.i64_in _ (by omega)
       have HC:=Lh (And.intro hc1 (And.intro hc2 hc3))
       clear hc1 hc2 hc3 hv0 hv1 hv2 hv3
       clear hlook hx HLA hMr
       have hsv : slotV ps most j = ⟨x1,x2,x3,x4⟩:=by unfold slotV;rw [hfnd];exact hy.symm
       have hqq : 0 < j → q = freeA ps most (j - 1):=fun h => by
         rw [hq (by omega),freeA_pred ps most (j - 1) (by omega),show j - 1 + 1 = j by omega,if_neg ?_]
         · rfl
         · intro hall
           rw [find_none_all.2 hall] at hfnd;cases hfnd
       go_wp2
       go_roundw
       case rel => exact ⟨j,by omega,rfl,⟨q,rfl,hqq,hq2⟩,Lh (by first | exact (laid_put HC.out.1 HC.out.2.1 HC.out.2.2 hj hsv).alloc _ | exact ((laid_put HC.out.1 HC.out.2.1 HC.out.2.2 hj hsv).alloc _).alloc _),bel⟩
       case measure => simp [intOf] <;> omega
     | none =>
       rw [hfnd] at hlook
       have hlook' : (Instr.lookup 101 (.map (some mb)) (.int .i64 j) true).run Tryz.prog wr = .ok (.tuple #[.agg #[.int .i64 x1,.int .i64 x2,.int .i64 x3,.int .i64 x4],.bool false]) wr:=hlook
       obtain ⟨cur,hc1,hc2,hc3⟩:=HLA.out
       have hglt:=lt_of_block hc1
       have hj : j ≤ most:=by omega
       obtain ⟨v0,hv0⟩ : ∃ v,cur[j * 4]? = some v:=⟨_,Array.getElem?_eq_getElem (by omega)⟩
       obtain ⟨v1,hv1⟩ : ∃ v,cur[j * 4 + 1]? = some v:=⟨_,Array.getElem?_eq_getElem (by omega)⟩
       obtain ⟨v2,hv2⟩ : ∃ v,cur[j * 4 + 2]? = some v:=⟨_,Array.getElem?_eq_getElem (by omega)⟩
       obtain ⟨v3,hv3⟩ : ∃ v,cur[j * 4 + 3]? = some v:=⟨_,Array.getElem?_eq_getElem (by omega)⟩
       have c0 : wr.cell? ⟨w.heap.size,j * 4,none⟩ = some v0:=by simp [World.cell?,hc1,hv0]
       have c1 : wr.cell? ⟨w.heap.size,j * 4 + 1,none⟩ = some v1:=by simp [World.cell?,hc1,hv1]
       have c2 : wr.cell? ⟨w.heap.size,j * 4 + 2,none⟩ = some v2:=by simp [World.cell?,hc1,hv2]
       have c3 : wr.cell? ⟨w.heap.size,j * 4 + 3,none⟩ = some v3:=by simp [World.cell?,hc1,hv3]
       have ff : ∀ o,wr.frozen? ⟨w.heap.size,o,none⟩ = false:=by intro o;simp [World.frozen?,hc1]
       have hne : ¬ w.heap.size = wr.heap.size:=by omega
       have gj : decide ((j : Int) < (most : Int) + 1) = true:=by rw [decide_eq_true_eq];omega
       have gj2 : (j : Int) < (most : Int) + 1:=by omega
       have wj : IntKind.i64.wrap ((j : Int) - 1) = (j : Int) - 1:=IntWalk.i64_in _ (by omega)
       have HC:=Lh (And.intro hc1 (And.intro hc2 hc3))
       clear hc1 hc2 hc3 hv0 hv1 hv2 hv3 hlook hx HLA hMr
       have hq0:=Lh (hq (by omega))
       have hsv : slotV ps most j = ⟨j,0,q,0⟩:=by
         unfold slotV;rw [hfnd,hq0.out];rfl
       clear hq
       have hqq : 0 < j → j = freeA ps most (j - 1):=fun h => by
         rw [freeA_pred ps most (j - 1) (by omega),show j - 1 + 1 = j by omega,if_pos (find_none_all.1 hfnd)]
       go_wp2
       go_roundw
       case rel => exact ⟨j,by omega,rfl,⟨j,rfl,hqq,by omega⟩,Lh (by first | exact (laid_put HC.out.1 HC.out.2.1 HC.out.2.2 hj hsv).alloc _ | exact ((laid_put HC.out.1 HC.out.2.1 HC.out.2.2 hj hsv).alloc _).alloc _),bel⟩
       case measure => simp [intOf] <;> omega
end Go.Proofs.YtfgdhcemidlnfaaGreatDoor
