/- Parts of the proof: TdF TdG ChA ChB ChC ChD ChF OvM WhK ChT. -/
import Derived.Test.YtinafodpgjbedaaGreatDoorPdTdE
import Derived.Test.YtinafodpgjbedaaGreatDoorPda
import Derived.Test.YtinafodpgjbedaaGreatDoorPdd
import Derived.Deep.AppendLies
import Derived.Deep.RegionLaw
import Derived.Recover
import Derived.Defers
import Derived.Deep.CutRange
import Derived.Test.YtinafodpgjbedaaGreatDoorPde
import Derived.Test.YtinafodpgjbedaaGreatDoorPdf
set_option linter.all false
set_option maxRecDepth 100000
set_option maxHeartbeats 8000000
namespace Go.Proofs.YtinafodpgjbedaaGreatDoor
open Go.RowKit Fo
def SecAt (s : ByteArray) (a : Nat) (y : Sec) : Prop:=∃ (PS : List Sl) (o : Ob) (rest : L) (prev hyb : Int),tableR (s.data.toList.drop a) = some (PS,o,rest) ∧ checkB 24 o = 0 ∧ leadsO o wPrevK = some prev ∧ leadsO o wHybK = some hyb ∧ y = ⟨a,PS,o,prev,hyb,0⟩
def TReadOut (w : World) (y : Sec) (e : Ending) (w' : World) : Prop :=
 ∃ (x : SecV) (z : Nat),e = .returned (.tuple #[.agg (encSec.cells x).toArray,.int .i64 z,.int .i64 0]) ∧ SecS (fun b => w.heap.size ≤ b) 25 w' x y ∧ Below w.heap.size w w'
theorem tread_good (s : ByteArray) (a : Nat) (y : Sec) (h : SecAt s a y) (ha : a ≤ s.size) (hs : s.size ≤ 100000000) (m : Int) (w : World) (hm : MaxW w m) :
   Calls Tryz.prog 30 #[.string s,.int .i64 a] w (TReadOut w y):=by
 have HSEC : Hid (∀ (r : Nat) (W : World),MaxW W m → RdT W r s a → r ≠ 1 → Calls Tryz.prog 43 #[.pointer (some ⟨r,0,none⟩)] W (SecOut r s W y)):=Lh (by
   obtain ⟨PS,o,rest,prev,hyb,g1,g2,g3,g4,rfl⟩:=h
   exact fun r W hm hr hrm => tsection_good r s a PS o rest prev hyb g1 g2 g3 g4 ha hs m W hm hr hrm)
 clear h
 have hMl:=hm.lt
 go_enter Tryz.func30,Tryz.ntmps30
 go_wp2_with fail
 have hwX : ((w.alloc (.cells #[.int .i64 0,.slice none 0 0,.int .i64 0,.int .i64 0,.int .i64 0,.string ⟨#[]⟩,.slice none 0 0,.slice none 0 0,.int .i64 0,.int .i64 0,.int .i64 0] 40)).alloc (.cells #[.string s,.int .i64 a] 85)).heap[w.heap.size]? = some (.cells #[.int .i64 0,.slice none 0 0,.int .i64 0,.int .i64 0,.int .i64 0,.string ⟨#[]⟩,.slice none 0 0,.slice none 0 0,.int .i64 0,.int .i64 0,.int .i64 0] 40 (0,0)):=(Below.heap_alloc _ _ _ (by simp)).trans (heap_new_at _ _ _ rfl)
 have hbA : Below w.heap.size w ((w.alloc (.cells #[.int .i64 0,.slice none 0 0,.int .i64 0,.int .i64 0,.int .i64 0,.string ⟨#[]⟩,.slice none 0 0,.slice none 0 0,.int .i64 0,.int .i64 0,.int .i64 0] 40)).alloc (.cells #[.string s,.int .i64 a] 85)):=bel
 refine (HSEC.out (w.heap.size + 1) _ (hm.below bel) (heap_new_at _ _ _ (by simp)) (by omega)).mono ?_
 rintro e w2 ⟨x,rfl,hx,⟨b,hb,hr2⟩,hs2⟩
 have hbw2 : Below w.heap.size w w2:=below_bes hbA hs2 (by simp) (by simp;omega)
 have hz2:=hs2.size
 simp at hz2
 have hX2:=(hs2.block w.heap.size (by simp;omega) (by simp)).trans hwX
 have HX:=Lh hx
 clear hwX hbA hs2 hx HSEC
 obtain ⟨x0,sp,sn,sc,x2,x3,x4,x5,p1,n1,c1,p2,n2,c2,x8,x9,x10⟩:=x
 unfold encSec
 dsimp only
 go_upto_region 5 with fail
 obtain ⟨w3,hw3⟩ : ∃ w3,w2.alloc (.cells #[.int .i64 x0,.slice sp sn sc,.int .i64 x2,.int .i64 x3,.int .i64 x4,.string x5,.slice p1 n1 c1,.slice p2 n2 c2,.int .i64 x8,.int .i64 x9,.int .i64 x10] 40) = w3:=⟨_,rfl⟩
 rw [hw3]
 have hb3 : Below w2.heap.size w2 w3:=by rw [← hw3];exact bel
 have hY3 : w3.heap[w2.heap.size]? = some (.cells #[.int .i64 x0,.slice sp sn sc,.int .i64 x2,.int .i64 x3,.int .i64 x4,.string x5,.slice p1 n1 c1,.slice p2 n2 c2,.int .i64 x8,.int .i64 x9,.int .i64 x10] 40 (0,0)):=by rw [← hw3];exact heap_new_at _ _ _ rfl
 have hX3:=(hb3.block w.heap.size (by omega)).trans hX2
 have hr3:=hr2.below hb3
 have hz3:=hb3.size
 have hbw3 : Below w.heap.size w w3:=hbw2.trans (hb3.mono (by omega))
 have HX3:=Lh (fun (W : World) (hW : ∀ b,w.heap.size + 2 ≤ b → b < w2.heap.size → W.heap[b]? = w3.heap[b]?) => HX.out.grow (w':=W) (S':=fun b => w.heap.size ≤ b) (fun b h1 h2 => ⟨by simp at h1;omega,(hW b (by simp at h1;omega) h2).trans (hb3.block b h2)⟩))
 have ne1 : ¬ w2.heap.size = w.heap.size:=by omega
 have ne2 : ¬ w.heap.size = w2.heap.size:=by omega
 have ne3 : ¬ w.heap.size + 1 = w.heap.size:=by omega
 have ne4 : ¬ w.heap.size = w.heap.size + 1:=by omega
 have k1:=hr3.cell1
 clear hw3 HX hX2 hr2 hbw2 hb3 hr3
 obtain ⟨X0,X1,X2,X3,X4,X5,X6,X7,X8,X9,X10,Xf⟩:=eleven_of hX3
 obtain ⟨Y0,Y1,Y2,Y3,Y4,Y5,Y6,Y7,Y8,Y9,Y10,Yf⟩:=eleven_of hY3
 go_region_held3 (fun w' => w'.cell? ⟨w2.heap.size,0,none⟩ = some (.int .i64 x0) ∧ w'.cell? ⟨w2.heap.size,1,none⟩ = some (.slice sp sn sc) ∧ w'.cell? ⟨w2.heap.size,2,none⟩ = some (.int .i64 x2) ∧ w'.cell? ⟨w2.heap.size,3,none⟩ = some (.int .i64 x3) ∧ w'.cell? ⟨w2.heap.size,4,none⟩ = some (.int .i64 x4) ∧ w'.cell? ⟨w2.heap.size,5,none⟩ = some (.string x5) ∧ w'.cell? ⟨w2.heap.size,6,none⟩ = some (.slice p1 n1 c1) ∧ w'.cell? ⟨w2.heap.size,7,none⟩ = some (.slice p2 n2 c2) ∧ w'.cell? ⟨w2.heap.size,8,none⟩ = some (.int .i64 x8) ∧ w'.cell? ⟨w2.heap.size,9,none⟩ = some (.int .i64 x9) ∧ w'.cell? ⟨w2.heap.size,10,none⟩ = some (.int .i64 x10) ∧ w'.cell? ⟨w.heap.size + 1,1,none⟩ = some (.int .i64 b)) (go_keep) (fail)
 go_wp2
 refine bodyPost_ret (v:=.tuple #[.agg #[.int .i64 x0,.slice sp sn sc,.int .i64 x2,.int .i64 x3,.int .i64 x4,.string x5,.slice p1 n1 c1,.slice p2 n2 c2,.int .i64 x8,.int .i64 x9,.int .i64 x10],.int .i64 b,.int .i64 0]) (by simp [results,Tryz.results30,go_sem,X0,X1,X2,X3,X4,X5,X6,X7,X8,X9,X10,Xf]) rfl ?_
 refine ⟨⟨x0,sp,sn,sc,x2,x3,x4,x5,p1,n1,c1,p2,n2,c2,x8,x9,x10⟩,b,rfl,HX3.out _ ?_,?_⟩
 · intro b hb _
   iterate 12 (first | rw [heap_drew] | rw [Below.heap_setCell _ _ _ _ (by show b ≠ w.heap.size;omega)])
 · have hb:=hbw3
   exact bel
open Go.RowKit Fo
theorem csection_neg (s : ByteArray) (a : Int) (ha : a < 0) (w : World) :
   Calls Tryz.prog 17 #[.string s,.int .i64 a] w (fun e w' => e = .returned (.tuple #[.agg #[.int .i64 0,.slice none 0 0,.int .i64 0,.int .i64 0,.int .i64 0,.string ⟨#[]⟩,.slice none 0 0,.slice none 0 0,.int .i64 0,.int .i64 0,.int .i64 0],.int .i64 21]) ∧ Below w.heap.size w w'):=by
 have d0 : decide (a < 0) = true:=decide_eq_true ha
 go_enter Tryz.func17,Tryz.ntmps17
 go_wp2
 refine bodyPost_ret (v:=.tuple #[.agg #[.int .i64 0,.slice none 0 0,.int .i64 0,.int .i64 0,.int .i64 0,.string ⟨#[]⟩,.slice none 0 0,.slice none 0 0,.int .i64 0,.int .i64 0,.int .i64 0],.int .i64 21]) (by simp [results,Tryz.results17,go_sem]) rfl ⟨rfl,?_⟩
 exact bel
def CSecOut (w : World) (y : Sec) (e : Ending) (w' : World) : Prop :=
 ∃ (x : SecV),e = .returned (.tuple #[.agg (encSec.cells x).toArray,.int .i64 0]) ∧ SecS (fun b => w.heap.size ≤ b) 25 w' x y ∧ Below w.heap.size w w'
theorem csection_good (s : ByteArray) (a : Nat) (y : Sec) (h : SecAt s a y) (ha : a < s.size) (hs : s.size ≤ 100000000) (m : Int) (w : World) (hm : MaxW w m) :
   Calls Tryz.prog 17 #[.string s,.int .i64 a] w (CSecOut w y):=by
 have HTR : Hid (∀ (W : World),MaxW W m → Calls Tryz.prog 30 #[.string s,.int .i64 a] W (TReadOut W y)):=Lh (fun W hW => tread_good s a y h (by omega) hs m W hW)
 have hpre : Lib.hasPrefix (s.data.toList.drop a) [120,114,101,102] = true:=by
   obtain ⟨PS,o,rest,prev,hyb,g1,_⟩:=h
   exact (tableR_at (by omega) g1).1
 have HB:=Lh (fun W => begins_as s ⟨#[120,114,101,102]⟩ a true hpre (by omega) (show s.size ≤ maxLen by unfold maxLen;omega) W)
 have d1 : decide ((s.size : Int) ≤ a) = false:=by simp;omega
 clear h hpre
 go_enter Tryz.func17,Tryz.ntmps17
 go_wp2_with (go_at_call 29;refine (HB.out _).mono ?_;rintro e w9 ⟨rfl,h9⟩;obtain rfl:=h9.symm)
 refine (HTR.out _ (hm.below bel)).mono ?_
 rintro e w2 ⟨x,z,rfl,hx,hs2⟩
 have hz2:=hs2.size
 simp at hz2
 have hbw2 : Below w.heap.size w w2:=(show Below w.heap.size w (w.alloc (.cells #[.int .i64 0,.slice none 0 0,.int .i64 0,.int .i64 0,.int .i64 0,.string ⟨#[]⟩,.slice none 0 0,.slice none 0 0,.int .i64 0,.int .i64 0,.int .i64 0] 40)) from bel).trans (hs2.mono (by simp))
 have hX2:=(hs2.block w.heap.size (by simp)).trans (heap_new_at w _ _ rfl)
 have HX:=Lh hx
 clear hs2 hx HTR HB
 obtain ⟨x0,sp,sn,sc,x2,x3,x4,x5,p1,n1,c1,p2,n2,c2,x8,x9,x10⟩:=x
 unfold encSec
 dsimp only
 go_upto_region 5 with fail
 obtain ⟨w3,hw3⟩ : ∃ w3,w2.alloc (.cells #[.int .i64 x0,.slice sp sn sc,.int .i64 x2,.int .i64 x3,.int .i64 x4,.string x5,.slice p1 n1 c1,.slice p2 n2 c2,.int .i64 x8,.int .i64 x9,.int .i64 x10] 40) = w3:=⟨_,rfl⟩
 rw [hw3]
 have hb3 : Below w2.heap.size w2 w3:=by rw [← hw3];exact bel
 have hY3 : w3.heap[w2.heap.size]? = some (.cells #[.int .i64 x0,.slice sp sn sc,.int .i64 x2,.int .i64 x3,.int .i64 x4,.string x5,.slice p1 n1 c1,.slice p2 n2 c2,.int .i64 x8,.int .i64 x9,.int .i64 x10] 40 (0,0)):=by rw [← hw3];exact heap_new_at _ _ _ rfl
 have hX3:=(hb3.block w.heap.size (by omega)).trans hX2
 have hz3:=hb3.size
 have hbw3 : Below w.heap.size w w3:=hbw2.trans (hb3.mono (by omega))
 have HX3:=Lh (fun (W : World) (hW : ∀ b,w.heap.size + 1 ≤ b → b < w2.heap.size → W.heap[b]? = w3.heap[b]?) => HX.out.grow (w':=W) (S':=fun b => w.heap.size ≤ b) (fun b h1 h2 => ⟨by simp at h1;omega,(hW b (by simp at h1;omega) h2).trans (hb3.block b h2)⟩))
 have ne1 : ¬ w2.heap.size = w.heap.size:=by omega
 have ne2 : ¬ w.heap.size = w2.heap.size:=by omega
 clear hw3 HX hX2 hbw2 hb3
 obtain ⟨X0,X1,X2,X3,X4,X5,X6,X7,X8,X9,X10,Xf⟩:=eleven_of hX3
 obtain ⟨Y0,Y1,Y2,Y3,Y4,Y5,Y6,Y7,Y8,Y9,Y10,Yf⟩:=eleven_of hY3
 go_wp2
 refine bodyPost_ret (v:=.tuple #[.agg #[.int .i64 x0,.slice sp sn sc,.int .i64 x2,.int .i64 x3,.int .i64 x4,.string x5,.slice p1 n1 c1,.slice p2 n2 c2,.int .i64 x8,.int .i64 x9,.int .i64 x10],.int .i64 0]) (by simp [results,Tryz.results17,go_sem,X0,X1,X2,X3,X4,X5,X6,X7,X8,X9,X10,Xf]) rfl ?_
 refine ⟨⟨x0,sp,sn,sc,x2,x3,x4,x5,p1,n1,c1,p2,n2,c2,x8,x9,x10⟩,rfl,HX3.out _ ?_,?_⟩
 · intro b hb _
   repeat (first | rw [heap_drew] | rw [Below.heap_setCell _ _ _ _ (by show b ≠ w.heap.size;omega)])
 · have hb:=hbw3
   exact bel
open Go.RowKit Fo Go.Maps
def boolR (v : Value) : Option (DataW Unit × List MemPlace):=match v with
 | .bool b => some (.lit (.bool b),[])
 | _ => none
theorem boolR_inv {v : Value} {z : DataW Unit × List MemPlace} (h : boolR v = some z) : ∃ b : Bool,v = .bool b ∧ z = (.lit (.bool b),[]):=by
 unfold boolR at h
 split at h
 · rename_i b
   cases h
   exact ⟨b,rfl,rfl⟩
 · cases h
theorem zeroBool (w : World) : (zeroValue 4).run Tryz.prog w = .ok (.bool false) w:=by kernel_rfl
structure MapB (D : DataW Unit) (ks : List Int) : Prop where
 tidy : Tidy D
 at' : ∀ c : Int,D.atKey (.int .i64 c) (.lit (.bool false)) = .lit (.bool (ks.contains c))
theorem MapB.nil : MapB (.map []) []:=⟨tidy_empty,fun c => rfl⟩
theorem MapB.push {D : DataW Unit} {ks : List Int} (h : MapB D ks) (c : Int) : MapB (D.put (.int .i64 c) (.lit (.bool true))) (c :: ks) :=
 ⟨h.tidy.put (isKey_num _) _,fun x => by
   by_cases hc : x = c
   · subst hc
     rw [atKey_put_same h.tidy.isMap (isKey_num _)];simp
   · rw [atKey_put_other (by simpa using hc),h.at'];simp [hc]⟩
def MetB (w : World) (mb n : Nat) (ks : List Int) : Prop:=∃ D : DataW Unit,w.ownsMap Tryz.prog 3 boolR mb n D ∧ MapB D ks
theorem MetB.lt {w : World} {mb n : Nat} {ks : List Int} (h : MetB w mb n ks) : mb < w.heap.size:=by
 obtain ⟨D,⟨es,clock,hb,_⟩,_⟩:=h
 exact (Array.getElem?_eq_some_iff.1 hb).1
theorem MetB.kept {w w' : World} {mb n : Nat} {ks : List Int} (h : MetB w mb n ks) (hk : w'.heap[mb]? = w.heap[mb]?) : MetB w' mb n ks:=by
 obtain ⟨D,⟨es,clock,hb,F⟩,h2⟩:=h
 exact ⟨D,⟨es,clock,hk.trans hb,F⟩,h2⟩
theorem MetB.below {w w' : World} {mb n : Nat} {ks : List Int} (h : MetB w mb n ks) (hb : Below w.heap.size w w') : MetB w' mb n ks:=h.kept (hb.block mb h.lt)
theorem MetB.made (w : World) : MetB (w.alloc (.map #[] 0)) w.heap.size 0 []:=⟨_,World.ownsMap_made w _ _ _,MapB.nil⟩
theorem MetB.look {w : World} {mb n : Nat} {ks : List Int} (h : MetB w mb n ks) (c : Int) (hwf : (Lit.int .i64 c).wf = true) :
   (Instr.lookup 62 (.map (some mb)) (.int .i64 c) false).run Tryz.prog w = .ok (.bool (ks.contains c)) w:=by
 obtain ⟨D,hown,hD⟩:=h
 obtain ⟨v,ps,hrun,hv⟩:=hown.lookup (int_keyed Tryz.underlying3) Tryz.underlying62 (zeroBool w) (show boolR (.bool false) = some (.lit (.bool false),[]) from rfl) (keyOf_int_mk Tryz.underlying3 hwf)
 obtain ⟨b,rfl,hz⟩:=boolR_inv hv
 rw [hD.at'] at hz
 simp only [Prod.mk.injEq,DataW.lit.injEq,Lit.bool.injEq] at hz
 rw [hrun,hz.1]
theorem MetB.upd {w : World} {mb n : Nat} {ks : List Int} (h : MetB w mb n ks) (c : Int) (hwf : (Lit.int .i64 c).wf = true) (hn : n < maxLen) :
   ∃ w',(Instr.mapUpdate 62 (.map (some mb)) (.int .i64 c) (.bool true)).run Tryz.prog w = .ok () w' ∧ MetB w' mb (n + 1) (c :: ks) ∧ w.grownBy w' (some mb):=by
 obtain ⟨D,hown,hD⟩:=h
 obtain ⟨w',h1,h2,h3⟩:=hown.update (int_keyed Tryz.underlying3) Tryz.underlying62 hn (keyOf_int_mk Tryz.underlying3 hwf) (show boolR (.bool true) = some (.lit (.bool true),[]) from rfl)
 exact ⟨w',h1,⟨_,h2,hD.push c⟩,h3⟩
theorem Tryz.infoSec : (Tryz.prog.info? 40).map (fun i => (i.zero,i.size,i.bytes)) = some (some (.agg #[.int .i64 0,.slice none 0 0,.int .i64 0,.int .i64 0,.int .i64 0,.string ⟨#[]⟩,.slice none 0 0,.slice none 0 0,.int .i64 0,.int .i64 0,.int .i64 0]),11,144):=by kernel_rfl
structure WalkS (T : Nat → Prop) (w : World) (b : Nat) (s : ByteArray) (mb n : Nat) (ks : List Int) (B : Nat) (v : Value) (vs : List SecV) (l : List Sec) : Prop where
 blk : w.heap[b]? = some (.cells #[.string s,.map (some mb),v] 64 (0,0))
 met : MetB w mb n ks
 row : rownS encSec 40 w B v vs
 lo : mb < b
 hi : b < B
 top : B ≤ w.heap.size
 len : vs.length = l.length
 secs : ∀ (i : Nat) (x : SecV) (y : Sec),vs[i]? = some x → l[i]? = some y → SecS (fun k => T k ∧ k ≠ b ∧ k ≠ mb ∧ v.ownBlock ≠ some k) 25 w x y
theorem WalkS.below {T : Nat → Prop} {w w' : World} {b : Nat} {s : ByteArray} {mb n : Nat} {ks : List Int} {B : Nat} {v : Value} {vs : List SecV} {l : List Sec} (h : WalkS T w b s mb n ks B v vs l) (hb : Below w.heap.size w w') : WalkS T w' b s mb n ks B v vs l :=
 ⟨(hb.block b (lt_of_block h.blk)).trans h.blk,h.met.below hb,h.row.below hb,h.lo,h.hi,Nat.le_trans h.top hb.size,h.len,fun i x y h1 h2 => (h.secs i x y h1 h2).grow (fun k k1 k2 => ⟨k1,hb.block k k2⟩)⟩
theorem WalkS.cut {T : Nat → Prop} {w : World} {b : Nat} {s : ByteArray} {mb n : Nat} {ks : List Int} {B : Nat} {v : Value} {vs : List SecV} {l : List Sec} (h : WalkS T w b s mb n ks B v vs l) (X : Nat) (hX : w.heap.size ≤ X) : WalkS (fun k => T k ∧ k ≠ X) w b s mb n ks B v vs l :=
 ⟨h.blk,h.met,h.row,h.lo,h.hi,h.top,h.len,fun i x y h1 h2 => (h.secs i x y h1 h2).grow (fun k k1 k2 => ⟨⟨⟨k1.1,by omega⟩,k1.2⟩,rfl⟩)⟩
theorem WalkS.weak {T T' : Nat → Prop} {w : World} {b : Nat} {s : ByteArray} {mb n : Nat} {ks : List Int} {B : Nat} {v : Value} {vs : List SecV} {l : List Sec} (h : WalkS T w b s mb n ks B v vs l) (hT : ∀ k,T k → T' k) : WalkS T' w b s mb n ks B v vs l :=
 ⟨h.blk,h.met,h.row,h.lo,h.hi,h.top,h.len,fun i x y h1 h2 => (h.secs i x y h1 h2).grow (fun k k1 k2 => ⟨⟨hT k k1.1,k1.2⟩,rfl⟩)⟩
theorem WalkS.other {T : Nat → Prop} {w w' : World} {b : Nat} {s : ByteArray} {mb n : Nat} {ks : List Int} {B : Nat} {v : Value} {vs : List SecV} {l : List Sec} (h : WalkS T w b s mb n ks B v vs l) (X : Nat) (hT : ¬ T X) (h1 : X ≠ b) (h2 : X ≠ mb) (h3 : v.ownBlock ≠ some X) (hsz : w.heap.size ≤ w'.heap.size) (hk : ∀ k,k < w.heap.size → k ≠ X → w'.heap[k]? = w.heap[k]?) : WalkS T w' b s mb n ks B v vs l:=by
 refine ⟨(hk b (lt_of_block h.blk) (fun e => h1 e.symm)).trans h.blk,h.met.kept (hk mb h.met.lt (fun e => h2 e.symm)),?_,h.lo,h.hi,Nat.le_trans h.top hsz,h.len,fun i x y k1 k2 => (h.secs i x y k1 k2).grow (fun k k3 k4 => ⟨k3,hk k k4 (fun e => hT (e ▸ k3.1))⟩)⟩
 refine ⟨h.row.1,?_⟩
 rcases h.row.2 with h0 | ⟨g,cap,cur,rfl,g2,g3,g4⟩
 · exact .inl h0
 · exact .inr ⟨g,cap,cur,rfl,g2,(hk g (lt_of_block g3) (fun e => h3 (by rw [← e];rfl))).trans g3,g4⟩
theorem three_of {w : World} {b : Nat} {t : TypeId} {v0 v1 v2 : Value} (h : w.heap[b]? = some (.cells #[v0, v1, v2] t (0, 0))) :
   w.cell? ⟨b,0,none⟩ = some v0 ∧ w.cell? ⟨b,1,none⟩ = some v1 ∧ w.cell? ⟨b,2,none⟩ = some v2 ∧ ∀ o,w.frozen? ⟨b,o,none⟩ = false:=by
 simp [World.cell?,World.frozen?,h]
open Go.RowKit Fo Go.Maps
theorem meet_again (T : Nat → Prop) (w : World) (b : Nat) (s : ByteArray) (mb n : Nat) (ks : List Int) (B : Nat) (v : Value) (vs : List SecV) (l : List Sec) (h : WalkS T w b s mb n ks B v vs l) (a : Int) (hwf : (Lit.int .i64 a).wf = true) (ha : ks.contains a = true) :
   Calls Tryz.prog 41 #[.pointer (some ⟨b,0,none⟩),.int .i64 a] w (fun e w' => e = .panicked [{ v:=.iface 80 (.int .i64 11),recovered:=false }] ∧ Below w.heap.size w w'):=by
 have hbw : Below w.heap.size w (w.alloc (.cells #[.int .i64 0,.slice none 0 0,.int .i64 0,.int .i64 0,.int .i64 0,.string ⟨#[]⟩,.slice none 0 0,.slice none 0 0,.int .i64 0,.int .i64 0,.int .i64 0] 40)):=bel
 have hlook:=(h.met.below hbw).look a hwf
 rw [ha] at hlook
 obtain ⟨b0,b1,b2,bf⟩:=three_of h.blk
 have hlt:=lt_of_block h.blk
 have hne : ¬ b = w.heap.size:=by omega
 clear h
 go_enter Tryz.func41,Tryz.ntmps41
 go_wp2
 exact ⟨rfl,rfl,hbw⟩
def MeetOut (T : Nat → Prop) (w : World) (b : Nat) (s : ByteArray) (mb n : Nat) (ks : List Int) (B : Nat) (v : Value) (vs : List SecV) (l : List Sec) (a : Int) (y : Sec) (e : Ending) (w' : World) : Prop :=
 ∃ (x : SecV) (v' : Value),e = .returned (.agg (encSec.cells x).toArray) ∧ WalkS T w' b s mb (n + 1) (a :: ks) B v' (vs ++ [x]) (l ++ [y]) ∧ x.prev = y.prev ∧ x.hyb = y.hyb ∧
   (∀ k,k < w.heap.size → k ≠ b → k ≠ mb → v.ownBlock ≠ some k → w'.heap[k]? = w.heap[k]? ∧ v'.ownBlock ≠ some k) ∧ Below mb w w'
theorem meet_shut {T : Nat → Prop} {w : World} {b : Nat} {s : ByteArray} {mb n : Nat} {ks : List Int} {B : Nat} {lp : Option Addr} {lc : Nat} {vs : List SecV} {l : List Sec} {a : Int} {y : Sec} (x : SecV) (N yb : Nat) (w4 w5 W7 : World) (g2 cap : Nat) (hN : vs.length = N) (H : WalkS T w b s mb n ks B (.slice lp N lc) vs l)
   (hp : x.prev = y.prev) (hh : x.hyb = y.hyb) (hbase : ∀ k,w.heap.size ≤ k → T k) (hyb : w.heap.size + 1 ≤ yb) (hz4 : yb + 1 ≤ w4.heap.size)
   (HK4 : ∀ k,k < w.heap.size → k ≠ mb → w4.heap[k]? = w.heap[k]?)
   (HS4 : ∀ (W : World) (S' : Nat → Prop),(∀ k,w.heap.size + 1 ≤ k → k < yb → S' k ∧ W.heap[k]? = w4.heap[k]?) → SecS S' 25 W x y)
   (HM4 : MetB w4 mb (n + 1) (a :: ks)) (hbw4 : Below mb w w4)
   (hown5 : w5.ownsRow B 40 11 (.slice (some ⟨g2,0,none⟩) (N + 1) cap) (N + 1) (encSec.row vs ++ encSec.cells x))
   (hgrow : (w4.alloc (.cells (encSec.cells x).toArray 40)).grownBy w5 (Value.slice lp N lc).ownBlock)
   (hat : (Value.slice lp N lc).ownBlock = some g2 ∨ g2 = w4.heap.size + 1)
   (w6 : World) (hS1 : SetAt b w5 w6) (hW6 : w6.heap[b]? = some (.cells #[.string s,.map (some mb),.slice (some ⟨g2,0,none⟩) (N + 1) cap] 64 (0,0)))
   (hS2 : SetAt w.heap.size w6 W7) :
   MeetOut T w b s mb n ks B (.slice lp N lc) vs l a y (.returned (.agg (encSec.cells x).toArray)) W7:=by
 have hkeep:=own_base H.row
 have hkl:=own_lt H.row
 have hbz:=lt_of_block H.blk
 have hos:=hS2.os.trans hS1.os
 have htape:=hS2.tape.trans hS1.tape
 have hout:=hS2.output.trans hS1.output
 have hsize:=hS2.size.trans hS1.size
 have hW : ∀ k,k ≠ b → k ≠ w.heap.size → W7.heap[k]? = w5.heap[k]?:=fun k h1 h2 => (hS2.block k h2).trans (hS1.block k h1)
 have hWb:=(hS2.block b (by omega)).trans hW6
 have hlo:=H.lo
 have hhi:=H.hi
 have htop:=H.top
 have hmb:=H.met.lt
 have hgs:=hgrow.size
 simp only [World.size_alloc] at hgs
 have hblk : ∀ k,k < w4.heap.size → (Value.slice lp N lc).ownBlock ≠ some k → w5.heap[k]? = w4.heap[k]?:=fun k h1 h2 => (hgrow.block k (by simp only [World.size_alloc];omega) (fun e => h2 e.symm)).trans (Below.heap_alloc _ _ _ h1)
 have hg2 : ∀ k,k < w.heap.size → (Value.slice lp N lc).ownBlock ≠ some k → (Value.slice (some ⟨g2,0,none⟩) (N + 1) cap).ownBlock ≠ some k:=by
   intro k h1 h2 e
   simp only [Value.ownBlock,Option.some.injEq] at e
   rcases hat with h | h
   · exact h2 (by rw [h,e])
   · omega
 have hkk : ∀ k,k < w.heap.size → k ≠ b → k ≠ mb → (Value.slice lp N lc).ownBlock ≠ some k → W7.heap[k]? = w.heap[k]?:=fun k h1 h2 h3 h4 =>
   (hW k h2 (by omega)).trans ((hblk k (by omega) h4).trans (HK4 k h1 h3))
 have hnk : ∀ k,w.heap.size ≤ k → (Value.slice lp N lc).ownBlock ≠ some k:=fun k h1 e => by have:=hkl k e;omega
 have hg2n : ∀ k,w.heap.size ≤ k → k < yb → (Value.slice (some ⟨g2,0,none⟩) (N + 1) cap).ownBlock ≠ some k:=by
   intro k h1 h2 e
   simp only [Value.ownBlock,Option.some.injEq] at e
   rcases hat with h | h
   · exact hnk k h1 (by rw [h,e])
   · omega
 refine ⟨x,_,rfl,⟨hWb,HM4.kept ((hW mb (by omega) (by omega)).trans (hblk mb (by omega) (fun e => by have:=hkeep _ e;omega))),?_,hlo,hhi,by omega,by rw [List.length_append,List.length_append,H.len];rfl,?_⟩,hp,hh,fun k h1 h2 h3 h4 => ⟨hkk k h1 h2 h3 h4,hg2 k h1 h4⟩,?_⟩
 · have h5 : rownS encSec 40 w5 B (.slice (some ⟨g2, 0, none⟩) (N + 1) cap) (vs ++ [x]) := by
     unfold rownS
     rw [List.length_append,hN,Enc.row_append,show encSec.row [x] = encSec.cells x by simp [Enc.row]]
     exact hown5
   refine row_lies h5 (fun k e => ?_)
   have hB:=own_base h5 k e
   refine hW k (by omega) (fun hk => ?_)
   subst hk
   exact hg2n _ (Nat.le_refl _) (by omega) e
 · intro i x' y' hx hy
   by_cases hi : i < vs.length
   · rw [List.getElem?_append_left hi] at hx
     rw [List.getElem?_append_left (by rw [← H.len];exact hi)] at hy
     exact (H.secs i x' y' hx hy).grow (fun k h1 h2 => ⟨⟨h1.1,h1.2.1,h1.2.2.1,hg2 k h2 h1.2.2.2⟩,hkk k h2 h1.2.1 h1.2.2.1 h1.2.2.2⟩)
   · have hi2 : i = vs.length := by
       have:=(List.getElem?_eq_some_iff.1 hx).1
       simp at this;omega
     subst hi2
     simp at hx
     rw [H.len] at hy
     simp at hy
     subst hx hy
     exact HS4 _ _ (fun k h1 h2 => ⟨⟨hbase k (by omega),by omega,by omega,hg2n k (by omega) h2⟩,(hW k (by omega) (by omega)).trans (hblk k (by omega) (hnk k (by omega)))⟩)
 · refine ⟨hos.trans (hgrow.os.trans hbw4.os),htape.trans (hgrow.tape.trans hbw4.tape),hout.trans (hgrow.output.trans hbw4.output),by have:=hbw4.size;omega,fun k hk => ?_⟩
   exact (hW k (by omega) (by omega)).trans ((hblk k (by omega) (fun e => by have:=hkeep _ e;omega)).trans (hbw4.block k hk))
theorem meet_new (T : Nat → Prop) (w : World) (b : Nat) (s : ByteArray) (mb n : Nat) (ks : List Int) (B : Nat) (v : Value) (vs : List SecV) (l : List Sec) (h : WalkS T w b s mb n ks B v vs l) (a : Nat) (y : Sec) (hy : SecAt s a y) (ha : a < s.size) (hs : s.size ≤ 100000000) (hk : ks.contains (a : Int) = false)
   (hn : n ≤ 1000) (hv : vs.length < 64) (hbase : ∀ k,w.heap.size ≤ k → T k) (m : Int) (hm : MaxW w m) :
   Calls Tryz.prog 41 #[.pointer (some ⟨b,0,none⟩),.int .i64 a] w (MeetOut T w b s mb n ks B v vs l a y):=by
 have hwf : (Lit.int .i64 (a : Int)).wf = true:=by simp [Lit.wf,IntKind.min,IntKind.max,IntKind.bits,IntKind.signed];omega
 have HCS:=Lh (fun (W : World) hW => csection_good s a y hy ha hs m W hW)
 have hbw : Below w.heap.size w (w.alloc (.cells #[.int .i64 0,.slice none 0 0,.int .i64 0,.int .i64 0,.int .i64 0,.string ⟨#[]⟩,.slice none 0 0,.slice none 0 0,.int .i64 0,.int .i64 0,.int .i64 0] 40)):=bel
 have hlook:=(h.met.below hbw).look a hwf
 rw [hk] at hlook
 obtain ⟨lp,lc,hvE⟩ : ∃ lp lc,v = .slice lp vs.length lc:=by
   obtain ⟨p,c,e,_⟩:=rownS.arg h.row
   exact ⟨p,c,e⟩
 subst hvE
 obtain ⟨b0,b1,b2,bf⟩:=three_of h.blk
 have hlt:=lt_of_block h.blk
 have hne : ¬ b = w.heap.size:=by omega
 have d1 : decide ((64 : Int) ≤ vs.length) = false:=by simp;omega
 have H:=Lh h
 clear h hy
 go_enter Tryz.func41,Tryz.ntmps41
 go_wp2_with fail
 refine (HCS.out _ (hm.below hbw)).mono ?_
 rintro e w2 ⟨x,rfl,hx,hb2⟩
 have hz2:=hb2.size
 simp at hz2
 have hbw2 : Below w.heap.size w w2:=hbw.trans (hb2.mono (by simp))
 have hX2:=(hb2.block w.heap.size (by simp)).trans (heap_new_at w _ _ rfl)
 have HX:=Lh hx
 have HPH:=Lh (And.intro hx.prev hx.hyb)
 clear hb2 hx HCS hlook b0 b1 b2 bf hbw
 obtain ⟨x0,sp,sn,sc,x2,x3,x4,x5,p1,n1,c1,p2,n2,c2,x8,x9,x10⟩:=x
 unfold encSec
 dsimp only
 go_upto_region 6 with fail
 obtain ⟨w3,hw3⟩ : ∃ w3,w2.alloc (.cells #[.int .i64 x0,.slice sp sn sc,.int .i64 x2,.int .i64 x3,.int .i64 x4,.string x5,.slice p1 n1 c1,.slice p2 n2 c2,.int .i64 x8,.int .i64 x9,.int .i64 x10] 40) = w3:=⟨_,rfl⟩
 obtain ⟨yb,hyb⟩ : ∃ yb,w2.heap.size = yb:=⟨_,rfl⟩
 rw [hw3]
 simp only [hyb]
 have hb3 : Below w2.heap.size w2 w3:=by rw [← hw3];exact bel
 have hY3 : w3.heap[yb]? = some (.cells #[.int .i64 x0,.slice sp sn sc,.int .i64 x2,.int .i64 x3,.int .i64 x4,.string x5,.slice p1 n1 c1,.slice p2 n2 c2,.int .i64 x8,.int .i64 x9,.int .i64 x10] 40 (0,0)):=by rw [← hw3];exact heap_new_at _ _ _ hyb.symm
 have hz3 : yb + 1 = w3.heap.size:=by rw [← hw3,← hyb];simp
 have hX3:=(hb3.block w.heap.size (by omega)).trans hX2
 have hbw3 : Below w.heap.size w w3:=hbw2.trans (hb3.mono (by omega))
 have hM3:=H.out.met.below hbw3
 obtain ⟨w4,hrun4,hM4,hg4⟩:=hM3.upd a hwf (by unfold maxLen;omega)
 have hmb : mb < w.heap.size:=H.out.met.lt
 have hlo:=H.out.lo
 have hhi:=H.out.hi
 have htop:=H.out.top
 have hz4:=hg4.size
 have hB3:=(hbw3.block b (by omega)).trans H.out.blk
 obtain ⟨b0,b1,b2,bf⟩:=three_of hB3
 clear hw3 hX2 hM3
 go_upto_region 9 with fail
 have hB4:=(hg4.block b (by omega) (by simp;omega)).trans hB3
 have hX4:=(hg4.block w.heap.size (by omega) (by simp;omega)).trans hX3
 have hY4:=(hg4.block yb (by omega) (by simp;omega)).trans hY3
 have hrow4 : rownS encSec 40 w4 B (.slice lp vs.length lc) vs:=World.ownsRow.kept (H.out.row.below hbw3) hg4 (.inr (fun e => by have:=own_base H.out.row _ e;omega))
 have hbw4 : Below mb w w4:=(hbw3.mono (by omega)).grown hg4 (by omega) (fun k hk => by cases hk;exact Nat.le_refl _)
 have HK4:=Lh (fun k (h1 : k < w.heap.size) (h2 : k ≠ mb) => (hg4.block k (by omega) (by simpa using h2)).trans (hbw3.block k h1))
 have HS4:=Lh (fun (W : World) (S' : Nat → Prop) (hW : ∀ k,w.heap.size + 1 ≤ k → k < yb → S' k ∧ W.heap[k]? = w4.heap[k]?) => HX.out.grow (w':=W) (S':=S') (fun k h1 h2 => by
   simp at h1
   obtain ⟨k1,k2⟩:=hW k h1 (by omega)
   exact ⟨k1,k2.trans ((hg4.block k (by omega) (by simp;omega)).trans (hb3.block k (by omega)))⟩))
 have HM4:=Lh hM4
 have HR4:=Lh hrow4
 clear hg4 hb3 hX3 hY3 hbw3 hbw2 hrun4 hM4 hB3 b0 b1 b2 bf HX d1
 obtain ⟨i0,hi0,y0',y1',y2'⟩:=info_parts Tryz.infoSec
 obtain ⟨N,hN⟩ : ∃ N,vs.length = N:=⟨_,rfl⟩
 rw [hN] at hrow4 hB4 hv
 have hrow2 : w4.ownsRow B 40 11 (.slice lp N lc) N (encSec.row vs):=by have h:=hrow4;unfold rownS at h;rw [hN] at h;exact h
 obtain ⟨X0,X1,X2,X3,X4,X5,X6,X7,X8,X9,X10,Xf⟩:=eleven_of hX4
 obtain ⟨Y0,Y1,Y2,Y3,Y4,Y5,Y6,Y7,Y8,Y9,Y10,Yf⟩:=eleven_of hY4
 obtain ⟨b0,b1,b2,bf⟩:=three_of hB4
 have hm1 : N + 1 ≤ maxLen:=by unfold maxLen;omega
 have hm2 : (N + 1) * 144 ≤ 140737488355328:=by omega
 have hkeep:=own_base hrow2
 have hkl:=own_lt (w:=w) H.out.row
 have lt0 : b < w4.heap.size:=by omega
 have lt1 : yb < w4.heap.size:=by omega
 have ne0 : ¬ b = w4.heap.size:=by omega
 have ne1 : ¬ yb = w4.heap.size:=by omega
 go_region_law (refine step_append_lies _ (by rfl) _ _ _ (by rfl) B 40 i0 (.agg #[.int .i64 0,.slice none 0 0,.int .i64 0,.int .i64 0,.int .i64 0,.string ⟨#[]⟩,.slice none 0 0,.slice none 0 0,.int .i64 0,.int .i64 0,.int .i64 0]) 11 144 Tryz.underlying22 hi0 y0' y1' y2' rfl (by omega) (.slice lp N lc) N (encSec.row vs) (by rfl) (hrow2.alloc _) ⟨w4.heap.size,0,none⟩ 1 1 [.int .i64 x0,.slice sp sn sc,.int .i64 x2,.int .i64 x3,.int .i64 x4,.string x5,.slice p1 n1 c1,.slice p2 n2 c2,.int .i64 x8,.int .i64 x9,.int .i64 x10] (by rfl) (by rfl) (World.news_of_block (cs:=#[.int .i64 x0,.slice sp sn sc,.int .i64 x2,.int .i64 x3,.int .i64 x4,.string x5,.slice p1 n1 c1,.slice p2 n2 c2,.int .i64 x8,.int .i64 x9,.int .i64 x10]) (t:=40) (fr:=(0,0)) (heap_alloc_new w4 _)) (encSec.one ⟨x0,sp,sn,sc,x2,x3,x4,x5,p1,n1,c1,p2,n2,c2,x8,x9,x10⟩) (by omega) hm1 hm2 (by simp;omega) (w4.heap.size + 1) (by simp) ?_;intro g2 cap w5 hown5 hgrow hat hlt5;(have hB5 : w5.heap[b]? = some (.cells #[.string s,.map (some mb),.slice lp N lc] 64 (0,0)):=(hgrow.block _ (by first | (simp;done) | (simp;omega)) (fun e => by have:=hkeep _ e.symm;omega)).trans ((Below.heap_alloc _ _ _ lt0).trans hB4));obtain ⟨s0',s1',s2',sf'⟩:=three_of hB5)
 all_goals
   obtain ⟨w6,hw6⟩ : ∃ w6,w5.setCell ⟨b,2,none⟩ (.slice (some ⟨g2,0,none⟩) (N + 1) cap) = w6:=⟨_,rfl⟩
   rw [hw6]
   have hnk : ∀ k,w.heap.size ≤ k → (Value.slice lp N lc).ownBlock ≠ some k:=fun k h1 e => by have:=hkl k (by rw [hN];exact e);omega
   have h65 : ∀ k,k ≠ b → w6.heap[k]? = w5.heap[k]?:=fun k hk => by rw [← hw6];exact Below.heap_setCell _ _ _ _ hk
   have hgs : w4.heap.size + 1 ≤ w5.heap.size:=by have h:=hgrow.size;(try simp at h);omega
   have hX6:=(h65 w.heap.size (by omega)).trans (((hgrow.block _ (by first | (simp;done) | (simp;omega)) (fun e => hnk _ (Nat.le_refl _) e.symm)).trans (Below.heap_alloc _ _ _ (by omega))).trans hX4)
   have hY6:=(h65 yb (by omega)).trans (((hgrow.block _ (by first | (simp;done) | (simp;omega)) (fun e => hnk yb (by omega) e.symm)).trans (Below.heap_alloc _ _ _ (by omega))).trans hY4)
   have hb6 : w6.heap[b]? = some (.cells #[.string s,.map (some mb),.slice (some ⟨g2,0,none⟩) (N + 1) cap] 64 (0,0)):=by rw [← hw6,set_any hB5];rfl
   have hs6 : w6.heap.size = w5.heap.size:=by rw [← hw6];simp [World.setCell]
   have hS6 : SetAt b w5 w6:=by rw [← hw6];exact (SetAt.refl b w5).set _ _
   have o2' : (w4.alloc (.cells #[.int .i64 x0,.slice sp sn sc,.int .i64 x2,.int .i64 x3,.int .i64 x4,.string x5,.slice p1 n1 c1,.slice p2 n2 c2,.int .i64 x8,.int .i64 x9,.int .i64 x10] 40)).grownBy w5 (Value.slice lp N lc).ownBlock:=⟨hgrow.os,hgrow.tape,hgrow.output,hgrow.size,hgrow.block⟩
   have HO:=Lh (And.intro hown5 (And.intro o2' (And.intro hat (And.intro hS6 hb6))))
   have hlx : w.heap.size < w6.heap.size:=by omega
   have hly : yb < w6.heap.size:=by omega
   have nxy : ¬ yb = w.heap.size:=by omega
   have nyx : ¬ w.heap.size = yb:=by omega
   clear hw6 h65 hs6 hS6 o2' hb6 hown5 hgrow hat hlt5 hB5 hB4 hX4 hY4 hrow4 hrow2 hnk hgs X0 X1 X2 X3 X4 X5 X6 X7 X8 X9 X10 Xf Y0 Y1 Y2 Y3 Y4 Y5 Y6 Y7 Y8 Y9 Y10 Yf s0' s1' s2' sf' b0 b1 b2 bf
   obtain ⟨X0,X1,X2,X3,X4,X5,X6,X7,X8,X9,X10,Xf⟩:=eleven_of hX6
   obtain ⟨Y0,Y1,Y2,Y3,Y4,Y5,Y6,Y7,Y8,Y9,Y10,Yf⟩:=eleven_of hY6
   go_wp2
   refine bodyPost_ret (v:=.agg #[.int .i64 x0,.slice sp sn sc,.int .i64 x2,.int .i64 x3,.int .i64 x4,.string x5,.slice p1 n1 c1,.slice p2 n2 c2,.int .i64 x8,.int .i64 x9,.int .i64 x10]) (by simp [results,Tryz.results41,go_sem,X0,X1,X2,X3,X4,X5,X6,X7,X8,X9,X10,Xf]) rfl ?_
   obtain ⟨o1,o2,o3,o4,o5⟩:=HO.out
   have H2:=H.out
   rw [hN] at H2
   refine meet_shut ⟨x0,sp,sn,sc,x2,x3,x4,x5,p1,n1,c1,p2,n2,c2,x8,x9,x10⟩ N yb w4 w5 _ g2 cap hN H2 HPH.out.1 HPH.out.2 hbase (by omega) (by omega) HK4.out HS4.out HM4.out hbw4 o1 o2 o3 w6 o4 o5 ?_
   (repeat' (first | (with_reducible exact SetAt.refl _ _) | (with_reducible refine SetAt.set ?_ _ _)))
open Go.RowKit Fo Go.Maps
theorem cface_idle (p : Addr) (w : World) :
   CallsD Tryz.prog 40 #[.pointer (some p)] .returning w fun e u' w' => e = .returned (.tuple #[]) ∧ u' = .returning ∧ w' = w:=by
 refine callsD_of_wpS Tryz.func40 rfl fun c₀ cs hu => ?_
 simp only [Tryz.ntmps40,List.size_toArray,List.length_cons,List.length_nil,Nat.reduceAdd,Nat.reduceSub,Array.replicate_succ,Array.replicate_zero,List.push_toArray,List.append_toArray,List.nil_append,List.cons_append]
 apply wpS_seq
 apply wpS_region
 simp [wpOpsS,go_sem,recoverD,hu,Tryz.ntmps40,Exit.thenS]
 refine wpS_of_wp ?_
 go_wp2
 cases c₀
 simp_all [bodyPostS,results,Tryz.results40]
theorem cface_catch (p : Addr) (x y : Int) (older : List PanicEntry) (w : World) (c0 : w.cell? p = some (.int .i64 y)) (f0 : w.frozen? p = false) :
   CallsD Tryz.prog 40 #[.pointer (some p)] (.panicking ({ v:=.iface 80 (.int .i64 x),recovered:=false } :: older)) w fun e u' w' =>
     e = .returned (.tuple #[]) ∧ u' = .panicking ({ v:=.iface 80 (.int .i64 x),recovered:=true } :: older) ∧ w' = w.setCell p (.int .i64 x):=by
 have hta : ∀ (x : Int) (w : World),(Instr.typeAssert (.iface 80 (.int .i64 x)) 20 80 true).run Tryz.prog w = .ok (.tuple #[.int .i64 x,.bool true]) w:=fun _ _ => by kernel_rfl
 refine callsD_of_wpS Tryz.func40 rfl fun c₀ cs hu => ?_
 simp only [Tryz.ntmps40,List.size_toArray,List.length_cons,List.length_nil,Nat.reduceAdd,Nat.reduceSub,Array.replicate_succ,Array.replicate_zero,List.push_toArray,List.append_toArray,List.nil_append,List.cons_append]
 apply wpS_seq
 apply wpS_region
 simp [wpOpsS,go_sem,recoverD,hu,Tryz.ntmps40,Exit.thenS]
 refine wpS_of_wp ?_
 go_wp2
 cases c₀
 simp_all [bodyPostS,results,Tryz.results40]
def prevOf (i : Value) (w : World) : Nat:=match i with
 | .pointer (some a) => (match w.cell? ⟨a.block,8,none⟩ with
   | some (.int _ p) => if p < 0 then 0 else 1
   | _ => 0)
 | _ => 0
theorem prevOf_at {w : World} {g : Nat} {p : Int} (h : w.cell? ⟨g,8,none⟩ = some (.int .i64 p)) : prevOf (.pointer (some ⟨g,0,none⟩)) w = if p < 0 then 0 else 1:=by
 unfold prevOf;simp only [h]
theorem set11 {w : World} {b : Nat} {t : TypeId} {u0 u1 u2 u3 u4 u5 u6 u7 u8 u9 u10 : Value} (h : w.heap[b]? = some (.cells #[u0, u1, u2, u3, u4, u5, u6, u7, u8, u9, u10] t (0, 0))) (v0 v1 v2 v3 v4 v5 v6 v7 v8 v9 v10 : Value) :
   (((((((((((w.setCell ⟨b,0,none⟩ v0).setCell ⟨b,1,none⟩ v1).setCell ⟨b,2,none⟩ v2).setCell ⟨b,3,none⟩ v3).setCell ⟨b,4,none⟩ v4).setCell ⟨b,5,none⟩ v5).setCell ⟨b,6,none⟩ v6).setCell ⟨b,7,none⟩ v7).setCell ⟨b,8,none⟩ v8).setCell ⟨b,9,none⟩ v9).setCell ⟨b,10,none⟩ v10).heap[b]? = some (.cells #[v0,v1,v2,v3,v4,v5,v6,v7,v8,v9,v10] t (0,0)) ∧ SetAt b w (((((((((((w.setCell ⟨b,0,none⟩ v0).setCell ⟨b,1,none⟩ v1).setCell ⟨b,2,none⟩ v2).setCell ⟨b,3,none⟩ v3).setCell ⟨b,4,none⟩ v4).setCell ⟨b,5,none⟩ v5).setCell ⟨b,6,none⟩ v6).setCell ⟨b,7,none⟩ v7).setCell ⟨b,8,none⟩ v8).setCell ⟨b,9,none⟩ v9).setCell ⟨b,10,none⟩ v10):=by
 refine ⟨by rw [(set_any (set_any (set_any (set_any (set_any (set_any (set_any (set_any (set_any (set_any (set_any h)))))))))))];simp only [List.setIfInBounds_toArray,List.set_cons_succ,List.set_cons_zero],?_⟩
 exact ((((((((((((SetAt.refl b w).set _ _).set _ _).set _ _).set _ _).set _ _).set _ _).set _ _).set _ _).set _ _).set _ _).set _ _)
def AInv (T : Nat → Prop) (w : World) (b : Nat) (s : ByteArray) (mb B : Nat) (a2 : Nat) (y2 y1 : Sec) (g : Nat) (wr : World) : Prop :=
 ∃ (x : SecV) (v : Value) (vs : List SecV),wr.heap[g]? = some (.cells (encSec.cells x).toArray 40 (0,0)) ∧ wr.heap[w.heap.size]? = some (.cells #[.int .i64 0] 43 (0,0)) ∧
   v.ownBlock ≠ some w.heap.size ∧ v.ownBlock ≠ some g ∧ w.heap.size < g ∧ Below mb w wr ∧ x.hyb < 0 ∧
   ((WalkS (fun k => T k ∧ k ≠ w.heap.size ∧ k ≠ g) wr b s mb 1 [(a2 : Int)] B v vs [y2] ∧ x.prev = 0) ∨ (WalkS (fun k => T k ∧ k ≠ w.heap.size ∧ k ≠ g) wr b s mb 2 [0,(a2 : Int)] B v vs [y2,y1] ∧ x.prev < 0))
def LInv (T : Nat → Prop) (w : World) (b : Nat) (s : ByteArray) (mb B : Nat) (y2 : Sec) (g : Nat) (wr : World) : Prop :=
 ∃ (x : SecV) (v : Value) (vs : List SecV),wr.heap[g]? = some (.cells (encSec.cells x).toArray 40 (0,0)) ∧ wr.heap[w.heap.size]? = some (.cells #[.int .i64 0] 43 (0,0)) ∧ Below mb w wr ∧ x.hyb < 0 ∧ x.prev = 0 ∧ WalkS T wr b s mb 1 [0] B v vs [y2]
theorem along_two (T : Nat → Prop) (w : World) (b : Nat) (s : ByteArray) (mb B : Nat) (v : Value) (h : WalkS T w b s mb 0 [] B v [] []) (a2 : Nat) (y2 y1 : Sec) (h2 : SecAt s a2 y2) (hl2 : a2 < s.size) (hp2 : y2.prev = 0) (hh2 : y2.hyb < 0)
   (h1 : SecAt s 0 y1) (hp1 : y1.prev < 0) (hh1 : y1.hyb < 0) (hne : a2 ≠ 0) (hs : s.size ≤ 100000000) (hT : ∀ k,w.heap.size ≤ k → T k) (m : Int) (hm : MaxW w m) (hg : 1 < mb) :
   Calls Tryz.prog 28 #[.pointer (some ⟨b,0,none⟩),.int .i64 a2] w (fun e w' => e = .returned (.int .i64 0) ∧ ∃ v' vs,WalkS T w' b s mb 2 [0,(a2 : Int)] B v' vs [y2,y1] ∧ Below mb w w'):=by
 have hE0:=lt_of_block h.blk
 have hmb:=h.met.lt
 have hlo:=h.lo
 have hhi:=h.hi
 have htop:=h.top
 have hov : v.ownBlock ≠ some w.heap.size:=fun e => by have:=own_lt h.row _ e;omega
 have hbA : Below w.heap.size w (w.alloc (.cells #[.int .i64 0] 43)):=bel
 have hEA : (w.alloc (.cells #[.int .i64 0] 43)).heap[w.heap.size]? = some (.cells #[.int .i64 0] 43 (0,0)):=heap_new_at _ _ _ rfl
 have hmf : ∀ (fn : Fn) (first cap : Array Value) (w : World),(Instr.makeFunc fn first cap).run Tryz.prog w = .ok (.func fn first cap) w:=fun _ _ _ _ => rfl
 have HM1:=Lh (meet_new (fun k => T k ∧ k ≠ w.heap.size) _ b s mb 0 [] B v [] [] ((h.cut w.heap.size (Nat.le_refl _)).below hbA) a2 y2 h2 hl2 hs rfl (by omega) (by simp) (fun k hk => by simp at hk;exact ⟨hT k (by omega),by omega⟩) m (hm.below hbA))
 have HM2:=Lh (fun (T' : Nat → Prop) (W : World) (v : Value) (vs : List SecV) (hW : WalkS T' W b s mb 1 [(a2 : Int)] B v vs [y2]) (hT' : ∀ k,W.heap.size ≤ k → T' k) (hmW : MaxW W m) => meet_new T' W b s mb 1 [(a2 : Int)] B v vs [y2] hW 0 y1 h1 (by omega) hs (by simp;omega) (by omega) (by rw [hW.len];simp) hT' m hmW)
 clear h h1 h2
 go_enter_defers Tryz.func28,Tryz.ntmps28
 go_wp2_with fail
 refine HM1.out.mono ?_
 rintro e w1 ⟨x,v1,rfl,H1,hxp,hxh,hk1,hb1⟩
 obtain ⟨hE1,hv1⟩:=hk1 w.heap.size (by simp) (by omega) (by omega) hov
 replace hE1:=hE1.trans hEA
 have hz1:=hb1.size
 simp at hz1
 have hbw1 : Below mb w w1:=(hbA.mono (by omega)).trans hb1
 have hv1g : v1.ownBlock ≠ some w1.heap.size:=fun e => by have:=own_lt H1.row _ e;omega
 clear hk1 HM1 hEA hbA
 obtain ⟨x0,sp,sn,sc,x2,x3,x4,x5,p1,n1,c1,p2,n2,c2,x8,x9,x10⟩:=x
 dsimp only at hxp hxh
 have HI1:=Lh (And.intro H1 (And.intro hv1 (And.intro hv1g (And.intro hbw1 (And.intro hE1 (And.intro (hxp.trans hp2) (hxh ▸ hh2)))))))
 have HF:=Lh (And.intro hp1 hh1)
 clear H1 hv1 hv1g hbw1 hE1 hb1 hxp hxh hp2 hh2 hp1 hh1
 unfold encSec
 dsimp only
 go_wp2_with fail
 go_loopw [5] (fun i wr => ∃ g,i = .pointer (some ⟨g,0,none⟩) ∧ AInv T w b s mb B a2 y2 y1 g wr) (fun i wr => prevOf i wr)
 case atStart =>
   obtain ⟨q1,q2,q3,q4,q5,q6,q7⟩:=HI1.out
   have hb : Below w1.heap.size w1 (w1.alloc (.cells #[.int .i64 x0,.slice sp sn sc,.int .i64 x2,.int .i64 x3,.int .i64 x4,.string x5,.slice p1 n1 c1,.slice p2 n2 c2,.int .i64 x8,.int .i64 x9,.int .i64 x10] 40)):=bel
   refine ⟨w1.heap.size,rfl,⟨x0,sp,sn,sc,x2,x3,x4,x5,p1,n1,c1,p2,n2,c2,x8,x9,x10⟩,_,_,heap_new_at _ _ _ rfl,(hb.block _ (by omega)).trans q5,q2,q3,by omega,q4.trans (hb.mono (by omega)),q7,.inl ⟨(((q1.cut w1.heap.size (Nat.le_refl _)).weak (fun k h => ⟨h.1.1,h.1.2,h.2⟩)).below hb),q6⟩⟩
 case round =>
   clear HI1
   obtain ⟨g,rfl,x,v2,vs2,hG,hE,hv2,hv2g,hlg,hbr,hxh,hcase⟩:=hrel
   obtain ⟨x0,sp,sn,sc,x2,x3,x4,x5,p1,n1,c1,p2,n2,c2,x8,x9,x10⟩:=x
   unfold encSec at hG
   dsimp only at hG hxh hcase
   obtain ⟨X0,X1,X2,X3,X4,X5,X6,X7,X8,X9,X10,Xf⟩:=eleven_of hG
   have dh : decide (0 ≤ x9) = false:=by simp;omega
   have hgl:=lt_of_block hG
   rcases hcase with ⟨HW,rfl⟩ | ⟨HW,hxp⟩
   · have HWh:=Lh HW
     have hGh:=Lh hG
     have HPM:=Lh (show prevOf (.pointer (some ⟨g,0,none⟩)) wr = 1 by rw [prevOf_at X8];rfl)
     clear HW hG
     go_upto_region 3 with fail
     obtain ⟨wB,hwB⟩ : ∃ wB,wr.alloc (.cells #[.int .i64 x0,.slice sp sn sc,.int .i64 x2,.int .i64 x3,.int .i64 x4,.string x5,.slice p1 n1 c1,.slice p2 n2 c2,.int .i64 0,.int .i64 x9,.int .i64 x10] 40) = wB:=⟨_,rfl⟩
     obtain ⟨gb,hgb⟩ : ∃ gb,wr.heap.size = gb:=⟨_,rfl⟩
     rw [hwB]
     simp only [hgb]
     have hbB : Below wr.heap.size wr wB:=by rw [← hwB];exact bel
     have hGB : wB.heap[gb]? = some (.cells #[.int .i64 x0,.slice sp sn sc,.int .i64 x2,.int .i64 x3,.int .i64 x4,.string x5,.slice p1 n1 c1,.slice p2 n2 c2,.int .i64 0,.int .i64 x9,.int .i64 x10] 40 (0,0)):=by rw [← hwB];exact heap_new_at _ _ _ hgb.symm
     have hzB : gb + 1 ≤ wB.heap.size:=by rw [← hwB,← hgb];simp
     have hWB:=((HWh.out.cut gb (by omega)).below hbB)
     have hEB:=(hbB.block w.heap.size (by omega)).trans hE
     have hbwB : Below mb w wB:=hbr.trans (hbB.mono (by have:=hbr.size;omega))
     have hv2gb : v2.ownBlock ≠ some gb:=fun e => by have:=own_lt HWh.out.row _ e;omega
     have HMM:=Lh (HM2.out _ wB v2 vs2 hWB (fun k hk => ⟨⟨hT k (by omega),by omega,by omega⟩,by omega⟩) (hm.belowB hbwB hg))
     obtain ⟨Y0,Y1,Y2,Y3,Y4,Y5,Y6,Y7,Y8,Y9,Y10,Yf⟩:=eleven_of hGB
     clear hwB X0 X1 X2 X3 X4 X5 X6 X7 X8 X9 X10 Xf hE hbr hbB hWB HM2
     go_wp2_with fail
     refine HMM.out.mono ?_
     rintro e w2 ⟨x',v3,rfl,H3,hxp3,hxh3,hk3,hb3⟩
     obtain ⟨hE3,hv3⟩:=hk3 w.heap.size (by omega) (by omega) (by omega) hv2
     obtain ⟨hG3,hv3g⟩:=hk3 gb (by omega) (by omega) (by omega) hv2gb
     replace hE3:=hE3.trans hEB
     replace hG3:=hG3.trans hGB
     have HH:=Lh (And.intro H3 (And.intro hxp3 hxh3))
     have hbw2:=hbwB.trans hb3
     clear H3 hxp3 hxh3 hk3 hEB hGB hbwB hb3 HMM Y0 Y1 Y2 Y3 Y4 Y5 Y6 Y7 Y8 Y9 Y10 Yf HWh hGh
     have hgl2:=lt_of_block hG3
     obtain ⟨X0,X1,X2,X3,X4,X5,X6,X7,X8,X9,X10,Xf⟩:=eleven_of hG3
     obtain ⟨a0,ap,an,ac,a2',a3,a4,a5,d1,e1,f1,d2,e2,f2,a8,a9,a10⟩:=x'
     unfold encSec
     dsimp only
     go_upto_region 4 with fail
     obtain ⟨w9,hw9⟩ : ∃ w9,((((((((((w2.setCell ⟨gb,0,none⟩ (.int .i64 a0)).setCell ⟨gb,1,none⟩ (.slice ap an ac)).setCell ⟨gb,2,none⟩ (.int .i64 a2')).setCell ⟨gb,3,none⟩ (.int .i64 a3)).setCell ⟨gb,4,none⟩ (.int .i64 a4)).setCell ⟨gb,5,none⟩ (.string a5)).setCell ⟨gb,6,none⟩ (.slice d1 e1 f1)).setCell ⟨gb,7,none⟩ (.slice d2 e2 f2)).setCell ⟨gb,8,none⟩ (.int .i64 a8)).setCell ⟨gb,9,none⟩ (.int .i64 a9)).setCell ⟨gb,10,none⟩ (.int .i64 a10) = w9:=⟨_,rfl⟩
     rw [hw9]
     obtain ⟨hG9,hS9⟩:=set11 hG3 (.int .i64 a0) (.slice ap an ac) (.int .i64 a2') (.int .i64 a3) (.int .i64 a4) (.string a5) (.slice d1 e1 f1) (.slice d2 e2 f2) (.int .i64 a8) (.int .i64 a9) (.int .i64 a10)
     rw [hw9] at hG9 hS9
     clear hw9
     obtain ⟨H3,hxp3,hxh3⟩:=HH.out
     (try dsimp only at hxp3 hxh3)
     obtain ⟨_,_,_,_,_,_,_,_,Z8,_⟩:=eleven_of hG9
     have hHO:=H3.other (w':=w9) gb (fun h => h.2 rfl) (by omega) (by omega) hv3g (Nat.le_of_eq hS9.size.symm) (fun k _ hk => hS9.block k hk)
     refine ⟨⟨⟨a0,ap,an,ac,a2',a3,a4,a5,d1,e1,f1,d2,e2,f2,a8,a9,a10⟩,v3,_,hG9,(hS9.block _ (by omega)).trans hE3,hv3,hv3g,by omega,hbw2.trans ⟨hS9.os,hS9.tape,hS9.output,Nat.le_of_eq hS9.size.symm,fun k hk => hS9.block k (by omega)⟩,by show a9 < 0;rw [hxh3];exact HF.out.2,.inr ⟨hHO.weak (fun k h => ⟨h.1.1,h.1.2.1,h.2⟩),by show a8 < 0;rw [hxp3];exact HF.out.1⟩⟩,?_⟩
     rw [HPM.out,prevOf_at Z8,if_pos (by rw [hxp3];exact HF.out.1)]
     decide
   · have HWh:=Lh HW
     have hbE:=Lh hbr
     have dp : decide (x8 < 0) = true:=decide_eq_true hxp
     have E0 : wr.cell? ⟨w.heap.size,0,none⟩ = some (.int .i64 0):=by simp [World.cell?,hE]
     have Ef : wr.frozen? ⟨w.heap.size,0,none⟩ = false:=by simp [World.frozen?,hE]
     have hEl:=lt_of_block hE
     clear HW hG hE hbr HM2
     go_wp2
     refine leaves_cons (f:=40) (args:=#[.pointer (some ⟨w.heap.size,0,none⟩)]) (by simp) (by simp [go_sem]) ?_
     refine (cface_idle _ _).mono ?_
     rintro e u' w'' ⟨rfl,rfl,rfl⟩
     simp [Leaves,settle,results,Tryz.results28,go_sem,E0,Ef,hEl]
     have hS:=(SetAt.refl w.heap.size wr).set 0 (.int .i64 0)
     exact ⟨⟨_,_,(HWh.out.other _ (fun h => h.2.1 rfl) (by omega) (by omega) hv2 (Nat.le_of_eq hS.size.symm) (fun k _ hk => hS.block k hk)).weak (fun k h => h.1)⟩,hbE.out.setCell (p:=⟨w.heap.size,0,none⟩) (by show mb ≤ w.heap.size;omega) _⟩
theorem along_loop (T : Nat → Prop) (w : World) (b : Nat) (s : ByteArray) (mb B : Nat) (v : Value) (h : WalkS T w b s mb 0 [] B v [] []) (y2 : Sec) (h2 : SecAt s 0 y2) (hp2 : y2.prev = 0) (hh2 : y2.hyb < 0)
   (hl2 : 0 < s.size) (hs : s.size ≤ 100000000) (hT : ∀ k,w.heap.size ≤ k → T k) (m : Int) (hm : MaxW w m) :
   Calls Tryz.prog 28 #[.pointer (some ⟨b,0,none⟩),.int .i64 0] w (fun e w' => e = .returned (.int .i64 11) ∧ Below mb w w'):=by
 have hE0:=lt_of_block h.blk
 have hmb:=h.met.lt
 have hlo:=h.lo
 have hhi:=h.hi
 have htop:=h.top
 have hov : v.ownBlock ≠ some w.heap.size:=fun e => by have:=own_lt h.row _ e;omega
 have hbA : Below w.heap.size w (w.alloc (.cells #[.int .i64 0] 43)):=bel
 have hEA : (w.alloc (.cells #[.int .i64 0] 43)).heap[w.heap.size]? = some (.cells #[.int .i64 0] 43 (0,0)):=heap_new_at _ _ _ rfl
 have hmf : ∀ (fn : Fn) (first cap : Array Value) (w : World),(Instr.makeFunc fn first cap).run Tryz.prog w = .ok (.func fn first cap) w:=fun _ _ _ _ => rfl
 have HM1:=Lh (meet_new (fun k => T k ∧ k ≠ w.heap.size) _ b s mb 0 [] B v [] [] ((h.cut w.heap.size (Nat.le_refl _)).below hbA) 0 y2 h2 hl2 hs rfl (by omega) (by simp) (fun k hk => by simp at hk;exact ⟨hT k (by omega),by omega⟩) m (hm.below hbA))
 have HM2:=Lh (fun (T' : Nat → Prop) (W : World) (v : Value) (vs : List SecV) (hW : WalkS T' W b s mb 1 [0] B v vs [y2]) => meet_again T' W b s mb 1 [0] B v vs [y2] hW 0 (by decide) (by decide))
 clear h h2
 go_enter_defers Tryz.func28,Tryz.ntmps28
 go_wp2_with fail
 refine HM1.out.mono ?_
 rintro e w1 ⟨x,v1,rfl,H1,hxp,hxh,hk1,hb1⟩
 obtain ⟨hE1,hv1⟩:=hk1 w.heap.size (by simp) (by omega) (by omega) hov
 replace hE1:=hE1.trans hEA
 have hz1:=hb1.size
 simp at hz1
 have hbw1 : Below mb w w1:=(hbA.mono (by omega)).trans hb1
 have hv1g : v1.ownBlock ≠ some w1.heap.size:=fun e => by have:=own_lt H1.row _ e;omega
 clear hk1 HM1 hEA hbA
 obtain ⟨x0,sp,sn,sc,x2,x3,x4,x5,p1,n1,c1,p2,n2,c2,x8,x9,x10⟩:=x
 dsimp only at hxp hxh
 have HI1:=Lh (And.intro H1 (And.intro hv1 (And.intro hv1g (And.intro hbw1 (And.intro hE1 (And.intro (hxp.trans hp2) (hxh ▸ hh2)))))))
 clear H1 hv1 hv1g hbw1 hE1 hb1 hxp hxh hp2 hh2
 unfold encSec
 dsimp only
 go_wp2_with fail
 go_loopw [5] (fun i wr => ∃ g,i = .pointer (some ⟨g,0,none⟩) ∧ LInv T w b s mb B y2 g wr) (fun i wr => prevOf i wr)
 case atStart =>
   obtain ⟨q1,q2,q3,q4,q5,q6,q7⟩:=HI1.out
   have hb : Below w1.heap.size w1 (w1.alloc (.cells #[.int .i64 x0,.slice sp sn sc,.int .i64 x2,.int .i64 x3,.int .i64 x4,.string x5,.slice p1 n1 c1,.slice p2 n2 c2,.int .i64 x8,.int .i64 x9,.int .i64 x10] 40)):=bel
   exact ⟨w1.heap.size,rfl,⟨x0,sp,sn,sc,x2,x3,x4,x5,p1,n1,c1,p2,n2,c2,x8,x9,x10⟩,_,_,heap_new_at _ _ _ rfl,(hb.block _ (by omega)).trans q5,q4.trans (hb.mono (by omega)),q7,q6,(q1.weak (fun k h => h.1)).below hb⟩
 case round =>
   clear HI1
   obtain ⟨g,rfl,x,v2,vs2,hG,hE,hbr,hxh,hxp,HW⟩:=hrel
   obtain ⟨x0,sp,sn,sc,x2,x3,x4,x5,p1,n1,c1,p2,n2,c2,x8,x9,x10⟩:=x
   unfold encSec at hG
   dsimp only at hG hxh hxp
   subst hxp
   obtain ⟨X0,X1,X2,X3,X4,X5,X6,X7,X8,X9,X10,Xf⟩:=eleven_of hG
   have dh : decide (0 ≤ x9) = false:=by simp;omega
   have hgl:=lt_of_block hG
   have HWh:=Lh HW
   have hEl:=lt_of_block hE
   have hzr:=hbr.size
   clear HW hG
   go_upto_region 3 with fail
   obtain ⟨wB,hwB⟩ : ∃ wB,wr.alloc (.cells #[.int .i64 x0,.slice sp sn sc,.int .i64 x2,.int .i64 x3,.int .i64 x4,.string x5,.slice p1 n1 c1,.slice p2 n2 c2,.int .i64 0,.int .i64 x9,.int .i64 x10] 40) = wB:=⟨_,rfl⟩
   obtain ⟨gb,hgb⟩ : ∃ gb,wr.heap.size = gb:=⟨_,rfl⟩
   rw [hwB]
   simp only [hgb]
   have hbB : Below wr.heap.size wr wB:=by rw [← hwB];exact bel
   have hGB : wB.heap[gb]? = some (.cells #[.int .i64 x0,.slice sp sn sc,.int .i64 x2,.int .i64 x3,.int .i64 x4,.string x5,.slice p1 n1 c1,.slice p2 n2 c2,.int .i64 0,.int .i64 x9,.int .i64 x10] 40 (0,0)):=by rw [← hwB];exact heap_new_at _ _ _ hgb.symm
   have HMM:=Lh (HM2.out _ wB v2 vs2 (HWh.out.below hbB))
   have hEB:=(hbB.block w.heap.size (by omega)).trans hE
   have hbwB : Below mb w wB:=hbr.trans (hbB.mono (by omega))
   have hzB:=hbB.size
   obtain ⟨Y0,Y1,Y2,Y3,Y4,Y5,Y6,Y7,Y8,Y9,Y10,Yf⟩:=eleven_of hGB
   clear hwB X0 X1 X2 X3 X4 X5 X6 X7 X8 X9 X10 Xf hE hbr hbB HM2 HWh
   go_wp2_with fail
   refine HMM.out.mono ?_
   rintro e w2 ⟨rfl,hb3⟩
   have hE3:=(hb3.block w.heap.size (by omega)).trans hEB
   have hbw2:=hbwB.trans (hb3.mono (by omega))
   have E0 : w2.cell? ⟨w.heap.size,0,none⟩ = some (.int .i64 0):=by simp [World.cell?,hE3]
   have Ef : w2.frozen? ⟨w.heap.size,0,none⟩ = false:=by simp [World.frozen?,hE3]
   have hEl2:=lt_of_block hE3
   clear hb3 hE3 hEB hbwB HMM hGB Y0 Y1 Y2 Y3 Y4 Y5 Y6 Y7 Y8 Y9 Y10 Yf
   go_wp2
   refine leaves_cons (f:=40) (args:=#[.pointer (some ⟨w.heap.size,0,none⟩)]) (by simp) (by simp [go_sem]) ?_
   refine (cface_catch _ 11 0 _ _ E0 Ef).mono ?_
   rintro e u' w'' ⟨rfl,rfl,rfl⟩
   simp [Leaves,settle,results,Tryz.results28,go_sem,E0,Ef,hEl2]
   exact hbw2.setCell (p:=⟨w.heap.size,0,none⟩) (by show mb ≤ w.heap.size;omega) _
open Go.RowKit Fo Go.Maps
theorem cread_loop (s : ByteArray) (y2 : Sec) (h2 : SecAt s 0 y2) (hp2 : y2.prev = 0) (hh2 : y2.hyb < 0) (hl2 : 0 < s.size) (hs : s.size ≤ 100000000) (w : World) (m : Int) (hm : MaxW w m) :
   Calls Tryz.prog 16 #[.string s,.int .i64 0] w (fun e w' => e = .returned (.tuple #[.slice none 0 0,.int .i64 11]) ∧ Below w.heap.size w w'):=by
 have hMl:=hm.lt
 have hmk : ∀ w,(Instr.makeMap 62 none).run Tryz.prog w = .ok (.map (some w.heap.size)) (w.alloc (.map #[] 0)):=fun _ => by kernel_rfl
 have hbA : Below w.heap.size w ((w.alloc (.map #[] 0)).alloc (.cells #[.string s,.map (some w.heap.size),.slice none 0 0] 64)):=bel
 have hW0 : WalkS (fun k => w.heap.size ≤ k) ((w.alloc (.map #[] 0)).alloc (.cells #[.string s,.map (some w.heap.size),.slice none 0 0] 64)) (w.heap.size + 1) s w.heap.size 0 [] (w.heap.size + 2) (.slice none 0 0) [] [] :=
   ⟨heap_new_at _ _ _ (by simp),(MetB.made w).below bel,rownS_nil _ _,by omega,by omega,by simp,rfl,fun i x y h => by simp at h⟩
 have HAL:=Lh (along_loop _ _ _ s _ _ _ hW0 y2 h2 hp2 hh2 hl2 hs (fun k hk => by simp at hk;omega) m (hm.below hbA))
 clear hW0 h2
 go_enter Tryz.func16,Tryz.ntmps16
 go_wp2_with fail
 refine HAL.out.mono ?_
 rintro e w1 ⟨rfl,hb1⟩
 have hbw1:=hbA.trans hb1
 clear HAL hbA hb1
 go_wp2
 exact bodyPost_ret (v:=.tuple #[.slice none 0 0,.int .i64 11]) (by simp [results,Tryz.results16,go_sem]) rfl ⟨rfl,hbw1⟩
theorem cread_two (s : ByteArray) (a2 : Nat) (y2 y1 : Sec) (h2 : SecAt s a2 y2) (hl2 : a2 < s.size) (hp2 : y2.prev = 0) (hh2 : y2.hyb < 0) (h1 : SecAt s 0 y1) (hp1 : y1.prev < 0) (hh1 : y1.hyb < 0) (hne : a2 ≠ 0) (hs : s.size ≤ 100000000) (w : World) (m : Int) (hm : MaxW w m) :
   Calls Tryz.prog 16 #[.string s,.int .i64 a2] w (fun e w' => (∃ p c vs,e = .returned (.tuple #[.slice p 2 c,.int .i64 0]) ∧ RArg encSec w' (.slice p 2 c) vs ∧ SecsIs (fun b => w.heap.size ≤ b ∧ b < w'.heap.size) 25 w' vs [y2,y1]) ∧ Below w.heap.size w w'):=by
 have hMl:=hm.lt
 have hmk : ∀ w,(Instr.makeMap 62 none).run Tryz.prog w = .ok (.map (some w.heap.size)) (w.alloc (.map #[] 0)):=fun _ => by kernel_rfl
 have hbA : Below w.heap.size w ((w.alloc (.map #[] 0)).alloc (.cells #[.string s,.map (some w.heap.size),.slice none 0 0] 64)):=bel
 have hW0 : WalkS (fun k => w.heap.size ≤ k) ((w.alloc (.map #[] 0)).alloc (.cells #[.string s,.map (some w.heap.size),.slice none 0 0] 64)) (w.heap.size + 1) s w.heap.size 0 [] (w.heap.size + 2) (.slice none 0 0) [] [] :=
   ⟨heap_new_at _ _ _ (by simp),(MetB.made w).below bel,rownS_nil _ _,by omega,by omega,by simp,rfl,fun i x y h => by simp at h⟩
 have HAL:=Lh (along_two _ _ _ s _ _ _ hW0 a2 y2 y1 h2 hl2 hp2 hh2 h1 hp1 hh1 hne hs (fun k hk => by simp at hk;omega) m (hm.below hbA) hMl)
 clear hW0 h2 h1
 go_enter Tryz.func16,Tryz.ntmps16
 go_wp2_with fail
 refine HAL.out.mono ?_
 rintro e w1 ⟨rfl,v,vs,hW,hb1⟩
 have hbw1:=hbA.trans hb1
 obtain ⟨p,c,rfl,hR⟩:=rownS.arg hW.row
 have hl2 : vs.length = 2:=hW.len
 have HR:=Lh (show RArg encSec w1 (.slice p 2 c) vs from hl2 ▸ rownS.arg hW.row)
 have HS:=Lh (show SecsIs (fun b => w.heap.size ≤ b ∧ b < w1.heap.size) 25 w1 vs [y2,y1] from ⟨hW.len,fun i x y k1 k2 => ((hW.secs i x y k1 k2).grow (fun k k3 k4 => ⟨⟨k3.1,k4⟩,rfl⟩)).is⟩)
 obtain ⟨b0,b1,b2,bf⟩:=three_of hW.blk
 rw [hl2] at b2
 clear HAL hbA hb1 hR hW hl2
 go_wp2
 exact bodyPost_ret (v:=.tuple #[.slice p 2 c,.int .i64 0]) (by simp [results,Tryz.results16,go_sem]) rfl ⟨⟨p,c,vs,rfl,HR.out,HS.out⟩,hbw1⟩
open Go.RowKit Fo
theorem find1_in (x : Sl) (b : Nat) (n : Int) (w : World) (hb : w.cell? ⟨b, 0, none⟩ = some (.int .i64 n)) (hlt : b < w.heap.size) :
   Calls Tryz.prog 23 #[.agg (slE.cells x).toArray,.pointer (some ⟨b,0,none⟩)] w fun e w' => e = .returned (.bool (x.num == n)) ∧ w' = w.alloc (.cells (slE.cells x).toArray 28):=by
 have hne : ¬ b = w.heap.size:=by omega
 obtain ⟨a0,a1,a2,a3⟩:=x
 dsimp only [slE]
 go_enter Tryz.func23,Tryz.ntmps23
 go_wp2
 go_ret
 exact ⟨rfl,rfl⟩
theorem numF_at : ∀ {l : List Sl} {k : Nat} {x : Sl} {n : Int},l[k]? = some x → (∀ y ∈ l.take k,y.num ≠ n) → x.num = n → numF n l = some x
 | [],k,x,n,h,_,_ => by simp at h
 | y :: l,0,x,n,h,_,hx => by simp at h;subst h;rw [numF_cons,if_pos hx]
 | y :: l,k + 1,x,n,h,ha,hx => by
   rw [numF_cons,if_neg (ha y (by simp)),numF_at (k:=k) (by simpa using h) (fun z hz => ha z (by simp [hz])) hx]
def IdxOk (n : Int) (l : List Sl) (e : Ending) : Prop:=(∃ (k : Nat) (x : Sl),l[k]? = some x ∧ e = .returned (.int .i64 k) ∧ numF n l = some x) ∨ (e = .returned (.int .i64 (-1)) ∧ numF n l = none)
theorem index_in (v : Value) (l : List Sl) (b : Nat) (n : Int) (w : World) (hv : RArg slE w v l) (hb : w.cell? ⟨b, 0, none⟩ = some (.int .i64 n)) (hlt : b < w.heap.size) (hl : l.length ≤ 1000000000) :
   Calls Tryz.prog 22 #[v,.func (.func 23) #[] #[.pointer (some ⟨b,0,none⟩)]] w fun e w' =>
     IdxOk n l e ∧ Below w.heap.size w w':=by
 obtain ⟨p,cp,rfl,_⟩:=id hv
 obtain ⟨m,hm⟩ : ∃ m,l.length = m:=⟨_,rfl⟩
 have HV:=Lh hv
 have HM:=Lh hm
 have HB:=Lh hb
 have hm1 : m ≤ 1000000000:=by omega
 rw [hm]
 clear hv hb hl hm
 go_enter Tryz.func22,Tryz.ntmps22
 go_wp2
 go_loopw [8] (fun i wr => ∃ k : Nat,k ≤ m ∧ i = .int .i64 k ∧ Below w.heap.size w wr ∧ Hid (∀ x ∈ l.take k,x.num ≠ n)) (fun i _ => m - (intOf i).toNat)
 case atStart => exact ⟨0,Nat.zero_le _,rfl,Below.refl _ _,Lh (by simp)⟩
 case round =>
   obtain ⟨k,hk,rfl,hbr,HA⟩:=hrel
   have hzr:=hbr.size
   by_cases hlk : k < m
   · have hvr : RArg slE wr (.slice p m cp) l:=by have:=HV.out.below hbr;rw [HM.out] at this;exact this
     have hk' : k < l.length:=by rw [HM.out];exact hlk
     obtain ⟨g,off,rfl,hglt,a0,a1,a2,a3⟩:=slot_at hvr k hk'
     have HX:=Lh (fun W (hW : Below wr.heap.size wr W) => find1_in l[k] b n W ((hW.cell (p:=⟨b,0,none⟩) (Nat.lt_of_lt_of_le hlt hzr)).trans ((hbr.cell (p:=⟨b,0,none⟩) hlt).trans HB.out)) (Nat.lt_of_lt_of_le hlt (Nat.le_trans hzr hW.size)))
     have HNX:=Lh (show (∀ x ∈ l.take (k + 1),x.num ≠ n) ↔ l[k].num ≠ n from by
       rw [List.take_succ_eq_append_getElem hk']
       constructor
       · intro h;exact h _ (List.mem_append.2 (.inr (List.mem_singleton.2 rfl)))
       · intro h x hx
         rcases List.mem_append.1 hx with hx | hx
         · exact HA.out x hx
         · simp only [List.mem_singleton] at hx;subst hx;exact h)
     have HYES:=Lh (show l[k].num = n → numF n l = some l[k] from fun h => numF_at (List.getElem?_eq_getElem hk') HA.out h)
     obtain ⟨x,hx⟩ : ∃ x,l[k] = x:=⟨_,rfl⟩
     have HXK:=Lh hx
     rw [hx] at a0 a1 a2 a3 HX HNX HYES
     obtain ⟨x0,x1,x2,x3⟩:=x
     dsimp only [slE] at HX a0 a1 a2 a3
     clear hvr hx
     cases hq : (x0 == n)
     · rw [hq] at HX
       have HN2:=Lh (HNX.out.2 (by simpa using hq))
       clear hq
       go_wp2_with fail
       refine (HX.out _ (Below.refl _ _)).mono ?_
       rintro e w1 ⟨rfl,rfl⟩
       go_wp2
       go_roundw
       case rel => exact ⟨k + 1,by omega,by go_num,hbr.alloc hzr _,HN2⟩
       case measure => simp [intOf];omega
     · rw [hq] at HX
       have HY:=Lh (show l[k].num = n by rw [HXK.out];simpa using hq)
       clear hq
       go_wp2_with fail
       refine (HX.out _ (Below.refl _ _)).mono ?_
       rintro e w1 ⟨rfl,rfl⟩
       go_wp2
       go_ret
       exact ⟨.inl ⟨k,_,(List.getElem?_eq_getElem hk').trans (congrArg some HXK.out),rfl,HYES.out (by have:=HY.out;rw [HXK.out] at this;exact this)⟩,hbr.alloc hzr _⟩
   · have HE:=Lh (show numF n l = none from numF_none.2 (by have:=HA.out;rw [List.take_of_length_le (by rw [HM.out];omega)] at this;exact this))
     go_wp2
     go_ret
     exact ⟨.inr ⟨rfl,HE.out⟩,hbr⟩
def slR (r : Option Sl) : Value:=.tuple #[.agg (slE.cells (r.getD ⟨0,0,0,0⟩)).toArray,.bool r.isSome]
theorem cfind_in (v : Value) (l : List Sl) (n : Int) (w : World) (hv : RArg slE w v l) (hl : l.length ≤ 1000000000) :
   Calls Tryz.prog 9 #[v,.int .i64 n] w fun e w' => e = .returned (slR (numF n l)) ∧ Below w.heap.size w w':=by
 have hmf : ∀ (fn : Fn) (first cap : Array Value) (w : World),(Instr.makeFunc fn first cap).run Tryz.prog w = .ok (.func fn first cap) w:=fun _ _ _ _ => rfl
 obtain ⟨p,cp,rfl,_⟩:=id hv
 obtain ⟨m,hm⟩ : ∃ m,l.length = m:=⟨_,rfl⟩
 have HV:=Lh hv
 have HM:=Lh hm
 have hbw : Below w.heap.size w ((w.alloc (.cells #[.int .i64 n] 3)).alloc (.cells #[.int .i64 0,.int .i64 0,.int .i64 0,.int .i64 0] 28)):=bel
 have HI:=Lh (index_in (.slice p l.length cp) l w.heap.size n ((w.alloc (.cells #[.int .i64 n] 3)).alloc (.cells #[.int .i64 0,.int .i64 0,.int .i64 0,.int .i64 0] 28)) (hv.below hbw) (by
   have h : ((w.alloc (.cells #[.int .i64 n] 3)).alloc (.cells #[.int .i64 0,.int .i64 0,.int .i64 0,.int .i64 0] 28)).heap[w.heap.size]? = some (.cells #[.int .i64 n] 3 (0,0)):=(Below.heap_alloc _ _ _ (by simp)).trans (heap_new_at _ _ _ rfl)
   simp [World.cell?,h]) (by simp;omega) hl)
 rw [hm] at HI ⊢
 clear hv hl hm
 go_enter Tryz.func9,Tryz.ntmps9
 go_wp2_with fail
 refine HI.out.mono ?_
 rintro e w1 ⟨hor,hb1⟩
 have hz1:=hb1.size
 simp at hz1
 have B1 : w1.heap[w.heap.size + 1]? = some (.cells #[.int .i64 0,.int .i64 0,.int .i64 0,.int .i64 0] 28 (0,0)):=(hb1.block _ (by simp)).trans (heap_new_at _ _ _ (by simp))
 obtain ⟨t0,t1,t2,t3⟩ : w1.cell? ⟨w.heap.size + 1,0,none⟩ = some (.int .i64 0) ∧ w1.cell? ⟨w.heap.size + 1,1,none⟩ = some (.int .i64 0) ∧ w1.cell? ⟨w.heap.size + 1,2,none⟩ = some (.int .i64 0) ∧ w1.cell? ⟨w.heap.size + 1,3,none⟩ = some (.int .i64 0):=by simp [World.cell?,B1]
 have tf : ∀ o,w1.frozen? ⟨w.heap.size + 1,o,none⟩ = false:=fun o => by simp [World.frozen?,B1]
 have hbw1 : Below w.heap.size w w1:=hbw.trans (hb1.mono hbw.size)
 clear hb1
 rcases hor with ⟨k,x,hkx,rfl,hf⟩ | ⟨rfl,hf⟩
 · obtain ⟨hk,hx⟩:=List.getElem?_eq_some_iff.1 hkx
   have hkm : k < m:=by rw [← HM.out];exact hk
   have hvr : RArg slE w1 (.slice p m cp) l:=by have:=HV.out.below hbw1;rw [HM.out] at this;exact this
   obtain ⟨g,off,rfl,hglt,a0,a1,a2,a3⟩:=slot_at hvr k hk
   have hne : ¬ g = w.heap.size + 1:=by
     intro e
     obtain ⟨_,_,e1,h⟩:=HV.out
     cases e1
     obtain ⟨g',o',e2,h2,_⟩:=h k hk
     cases e2
     omega
   have HR:=Lh hf
   rw [hx] at a0 a1 a2 a3
   obtain ⟨x0,x1,x2,x3⟩:=x
   dsimp only at a0 a1 a2 a3
   have hd : decide ((k : Int) < 0) = false:=by simp
   clear hvr hx hf hkx
   go_wp2
   refine bodyPost_ret (v:=.tuple #[.agg #[.int .i64 x0,.int .i64 x1,.int .i64 x2,.int .i64 x3],.bool true]) (by simp [results,Tryz.results9,go_sem,t0,t1,t2,t3,tf]) rfl ⟨?_,bel⟩
   rw [HR.out]
   rfl
 · have HR:=Lh hf
   clear hf
   go_wp2
   refine bodyPost_ret (v:=.tuple #[.agg #[.int .i64 0,.int .i64 0,.int .i64 0,.int .i64 0],.bool false]) (by simp [results,Tryz.results9,go_sem,t0,t1,t2,t3,tf]) rfl ⟨?_,bel⟩
   rw [HR.out]
   rfl
open Go.RowKit Fo
structure Ov where
 k : Int
 n : Int
 g : Int
 s : ByteArray
 p1 : Option Addr
 n1 : Nat
 c1 : Nat
 p2 : Option Addr
 n2 : Nat
 c2 : Nat
def encOv : Enc Ov where
 k:=6
 cells x:=[.int .i64 x.k,.int .i64 x.n,.int .i64 x.g,.string x.s,.slice x.p1 x.n1 x.c1,.slice x.p2 x.n2 x.c2]
 len _:=rfl
 one x u hu:=by
   simp only [List.mem_cons,List.not_mem_nil,or_false] at hu
   rcases hu with rfl | rfl | rfl | rfl | rfl | rfl <;> rfl
def encK : Enc L where
 k:=1
 cells x:=[.string ⟨x.toArray⟩]
 len _:=rfl
 one x u hu:=by simp at hu;subst hu;rfl
theorem Tryz.infoKs : (Tryz.prog.info? 9).map (fun i => (i.zero,i.size,i.bytes)) = some (some (.string ⟨#[]⟩),1,16):=by kernel_rfl
theorem Tryz.infoOs : (Tryz.prog.info? 36).map (fun i => (i.zero,i.size,i.bytes)) = some (some (.agg #[.int .i64 0,.int .i64 0,.int .i64 0,.string ⟨#[]⟩,.slice none 0 0,.slice none 0 0]),6,88):=by kernel_rfl
def OvsAt (S : Nat → Prop) (d : Nat) (w : World) (vs : List Ov) (os : List Ob) : Prop:=vs.length = os.length ∧ ∀ (i : Nat) (v : Ov) (o : Ob),vs[i]? = some v → os[i]? = some o → ObjAt S d w (encOv.cells v) o
theorem OvsAt.nil (S : Nat → Prop) (d : Nat) (w : World) : OvsAt S d w [] []:=⟨rfl,fun i v o h => by simp at h⟩
theorem OvsAt.kept {S : Nat → Prop} {d : Nat} {w w' : World} {vs : List Ov} {os : List Ob} (h : OvsAt S d w vs os) (hk : ∀ b,S b → w'.heap[b]? = w.heap[b]?) : OvsAt S d w' vs os :=
 ⟨h.1,fun i v o hv ho => (h.2 i v o hv ho).kept hk d⟩
theorem OvsAt.push {S : Nat → Prop} {d : Nat} {w : World} {vs : List Ov} {os : List Ob} {v : Ov} {o : Ob} (h : OvsAt S d w vs os) (hv : ObjAt S d w (encOv.cells v) o) : OvsAt S d w (vs ++ [v]) (os ++ [o]):=by
 refine ⟨by simp [h.1],fun i v' o' h1 h2 => ?_⟩
 by_cases hi : i < vs.length
 · rw [List.getElem?_append_left hi] at h1
   rw [List.getElem?_append_left (by rw [← h.1];exact hi)] at h2
   exact h.2 i v' o' h1 h2
 · rw [List.getElem?_append_right (by omega)] at h1
   rw [List.getElem?_append_right (by rw [← h.1];omega)] at h2
   have hz : i - vs.length = 0:=by
     have:=(List.getElem?_eq_some_iff.1 h1).1
     simp at this;omega
   rw [hz] at h1
   rw [← h.1,hz] at h2
   cases h1
   cases h2
   exact hv
theorem row_addr {α : Type} {E : Enc α} {t : TypeId} {w : World} {B : Nat} {v : Value} {xs : List α} (h : rownS E t w B v xs) (hne : xs ≠ []) : ∃ g c, v = .slice (some ⟨g, 0, none⟩) xs.length c ∧ B ≤ g ∧ g < w.heap.size ∧
   ∀ j (hj : j < xs.length) i u,(E.cells xs[j])[i]? = some u → w.cell? ⟨g,j * E.k + i,none⟩ = some u:=by
 have ha:=h.arg
 rcases h with ⟨h0,⟨rfl,h1⟩ | ⟨g,cap,cur,rfl,h2,h3,_⟩⟩
 · exact absurd (List.eq_nil_of_length_eq_zero h1) hne
 · refine ⟨g,cap,rfl,h2,(Array.getElem?_eq_some_iff.1 h3).1,fun j hj i u hu => ?_⟩
   obtain ⟨p,c,e,hA⟩:=ha
   cases e
   obtain ⟨g',off,e1,_,hc⟩:=hA j hj
   cases e1
   have:=hc i u hu
   rw [Nat.zero_add] at this
   exact this
theorem keysAt_row {w : World} {B : Nat} {v : Value} {ks : List L} (h : rownS encK 9 w B v ks) : KeysAt (fun b => B ≤ b) w v ks:=by
 by_cases hne : ks = []
 · subst hne
   obtain ⟨p,c,rfl⟩:=rown_slice h
   exact .inl ⟨rfl,_,_,rfl⟩
 · obtain ⟨g,c,rfl,hB,_,hc⟩:=row_addr h hne
   refine .inr ⟨g,0,c,rfl,hB,fun i hi => ?_⟩
   have:=hc i hi 0 _ rfl
   rw [show i * encK.k + 0 = 0 + i by show i * 1 + 0 = 0 + i;omega] at this
   exact this
theorem obj_rows {S : Nat → Prop} {d : Nat} {w : World} {B : Nat} {kv dv : Value} {ks : List L} {vs : List Ov} {os : List Ob} {K N G : Int} {s : L} (h1 : rownS encK 9 w B kv ks) (h2 : rownS encOv 36 w B dv vs) (h3 : OvsAt S d w vs os) :
   ObjAt (fun b => B ≤ b ∨ S b) (d + 1) w (objCells K N G s kv dv) (.mk K N G s ks os):=by
 refine ⟨kv,dv,rfl,?_,?_⟩
 · rcases keysAt_row h1 with h | ⟨b,o,c,e,hb,hc⟩
   · exact .inl h
   · exact .inr ⟨b,o,c,e,.inl hb,hc⟩
 · by_cases hne : vs = []
   · subst hne
     have h0 : os = []:=List.eq_nil_of_length_eq_zero h3.1.symm
     obtain ⟨p,c,rfl⟩:=rown_slice h2
     exact .inl ⟨h0,_,_,rfl⟩
   · obtain ⟨g,c,rfl,hB,_,hc⟩:=row_addr h2 hne
     refine .inr ⟨g,0,c,by rw [h3.1];rfl,.inl hB,fun i hi => ?_⟩
     have hi' : i < vs.length:=by rw [h3.1];exact hi
     have hO:=h3.2 i vs[i] os[i] (List.getElem?_eq_getElem hi') (List.getElem?_eq_getElem hi)
     refine ⟨encOv.cells vs[i],rfl,fun j hj => ?_,hO.weaken (fun b h _ => .inr h) d⟩
     have:=hc i hi' j _ (List.getElem?_eq_getElem hj)
     rw [show 0 + 6 * i + j = i * encOv.k + j by show 0 + 6 * i + j = i * 6 + j;omega]
     exact this
theorem row_other {α : Type} {E : Enc α} {t t2 : TypeId} {w w' : World} {B s2 m : Nat} {v v2 : Value} {xs : List α} {ys : List Value} (h : rownS E t w B v xs) (h2 : w.ownsRow B t2 s2 v2 m ys) (ht : t ≠ t2) (hg : w.grownBy w' v2.ownBlock) : rownS E t w' B v xs:=by
 refine World.ownsRow.kept h hg ?_
 have h1 : w.ownsRow B t E.k v xs.length (E.row xs):=h
 rcases h1.2 with ⟨rfl,_⟩ | ⟨g,cap,cur,rfl,_,hg1,_⟩
 · exact .inl rfl
 · rcases h2.2 with ⟨rfl,_⟩ | ⟨g2,cap2,cur2,rfl,_,hg2,_⟩
   · exact .inr (by simp [Value.ownBlock])
   · refine .inr fun e => ?_
     simp [Value.ownBlock] at e
     subst e
     rw [hg1] at hg2
     simp at hg2
     exact ht hg2.2
def pickK (f : L → Bool) (o : Ob) (k : Nat) : List (L × Ob):=((o.keys.zip o.kids).take k).filter fun p => f p.1
theorem pickK_succ {f : L → Bool} {o : Ob} {k : Nat} (h1 : k < o.keys.length) (h2 : k < o.kids.length) : pickK f o (k + 1) = pickK f o k ++ (if f o.keys[k] then [(o.keys[k],o.kids[k])] else []):=by
 unfold pickK
 rw [List.take_succ_eq_append_getElem (by simp;omega),List.filter_append]
 simp only [List.getElem_zip,List.filter_cons,List.filter_nil]
theorem pickK_len (f : L → Bool) (o : Ob) (k : Nat) : (pickK f o k).length ≤ k:=by
 unfold pickK
 exact Nat.le_trans (List.length_filter_le _ _) (by simp;omega)
end Go.Proofs.YtinafodpgjbedaaGreatDoor
namespace Fo
def keepT (k : L) : Bool:=k == wID || k == wInfo || k == wRoot
def pairLt (a b : L × Ob) : Prop:=a.1 < b.1
theorem pairs_ext : ∀ {a b : List (L × Ob)},a.Pairwise pairLt → b.Pairwise pairLt → (∀ x,x ∈ a ↔ x ∈ b) → a = b
 | [],[],_,_,_ => rfl
 | [],y :: b,_,_,h => by have:=(h y).2 (by simp);cases this
 | x :: a,[],_,_,h => by have:=(h x).1 (by simp);cases this
 | x :: a,y :: b,ha,hb,h => by
   obtain ⟨a1,a2⟩:=List.pairwise_cons.1 ha
   obtain ⟨b1,b2⟩:=List.pairwise_cons.1 hb
   have hxy : x = y:=by
     rcases List.mem_cons.1 ((h x).1 (by simp)) with e | e
     · exact e
     · rcases List.mem_cons.1 ((h y).2 (by simp)) with e' | e'
       · exact e'.symm
       · have h1:=b1 x e
         have h2:=a1 y e'
         exact absurd h1 (List.lt_asymm h2)
   subst hxy
   congr 1
   refine pairs_ext a2 b2 fun z => ⟨fun hz => ?_,fun hz => ?_⟩
   · rcases List.mem_cons.1 ((h z).1 (List.mem_cons_of_mem _ hz)) with e | e
     · subst e;exact absurd (a1 z hz) (List.lt_irrefl _)
     · exact e
   · rcases List.mem_cons.1 ((h z).2 (List.mem_cons_of_mem _ hz)) with e | e
     · subst e;exact absurd (b1 z hz) (List.lt_irrefl _)
     · exact e
def trailK : List L:=[wID,wInfo,wRoot]
def pickP (o : Ob) (k : Nat) : List (L × Ob):=(trailK.take k).filterMap fun x => (getO o x).map fun v => (x,v)
def pickR (o : Ob) : List (L × Ob):=(o.keys.zip o.kids).filter fun p => keepT p.1
def ofPairs (l : List (L × Ob)) : Ob:=.mk 7 0 0 [] (l.map (·.1)) (l.map (·.2))
def trailT (o : Ob) : Ob:=if dictB o && checkB 24 o == 0 then ofPairs (pickR o) else ofPairs []
theorem pick_eq {o : Ob} (hd : dictB o = true) (hc : checkB 24 o = 0) : pickP o 3 = pickR o:=by
 have hk79 : o.kind = 7 ∨ o.kind = 9:=by unfold dictB at hd;simpa using hd
 have hok:=(keysB_iff o hk79).1 ((checkB_iff 23 o).1 hc).keys
 have hup:=hok.up
 have hlen:=hok.len
 refine pairs_ext ?_ ?_ fun ⟨k,v⟩ => ?_
 · unfold pickP trailK
   refine List.Pairwise.filterMap (R:=fun a b : L => a < b) _ (fun a b hab x hx y hy => ?_) (by decide)
   cases ha : getO o a with
   | none => rw [ha] at hx;cases hx
   | some u =>
     cases hb : getO o b with
     | none => rw [hb] at hy;cases hy
     | some z => rw [ha] at hx;rw [hb] at hy;cases hx;cases hy;exact hab
 · unfold pickR
   refine List.Pairwise.filter _ ?_
   rw [List.pairwise_iff_getElem]
   intro i j hi hj hij
   simp only [List.length_zip] at hi hj
   simp only [List.getElem_zip,pairLt]
   exact List.pairwise_iff_getElem.1 hup i j (by omega) (by omega) hij
 · have hg : getO o k = some v ↔ (k, v) ∈ o.keys.zip o.kids := by
     unfold getO
     rw [hd,if_pos rfl]
     constructor
     · intro h
       cases hi : idxS o.keys k with
       | none => rw [hi] at h;cases h
       | some i =>
         rw [hi] at h
         dsimp only at h
         obtain ⟨h1,h2⟩:=idxS_spec hi
         obtain ⟨h3,h4⟩:=List.getElem?_eq_some_iff.1 h
         refine List.mem_iff_getElem.2 ⟨i,by simp;omega,?_⟩
         rw [List.getElem_zip,h2,h4]
     · intro h
       obtain ⟨i,hi,e⟩:=List.mem_iff_getElem.1 h
       simp only [List.length_zip] at hi
       rw [List.getElem_zip] at e
       cases e
       have:=idxS_some (l:=o.keys) (k:=o.keys[i]) (i:=i) (by omega) rfl (fun j hj hji e => by
         have:=List.pairwise_iff_getElem.1 hup j i hj (by omega) hji
         rw [e] at this
         exact List.lt_irrefl _ this)
       rw [this]
       exact List.getElem?_eq_getElem (by omega)
   have hk : keepT k = true ↔ k ∈ trailK:=by
     unfold keepT trailK
     simp [or_assoc]
   unfold pickP pickR
   rw [List.mem_filter,show trailK.take 3 = trailK from rfl,List.mem_filterMap]
   constructor
   · rintro ⟨x,hx,h⟩
     cases hx2 : getO o x with
     | none => rw [hx2] at h;cases h
     | some u =>
       rw [hx2] at h
       cases h
       exact ⟨hg.1 hx2,hk.2 hx⟩
   · rintro ⟨h1,h2⟩
     exact ⟨k,hk.1 h2,by rw [hg.2 h1];rfl⟩
end Fo
