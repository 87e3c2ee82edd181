/- Parts of the proof: GLib Unhex Esc BackE BackF BackG. -/
import Derived.Test.YtfgdhcemidlnfaaGreatDoorRows
import Derived.Test.YtfgdhcemidlnfaaGreatDoorWqa
import Derived.WalkKit
import Derived.WalkSpells
import Derived.WalkLawsBesides
import Derived.Lib.Hide
import Derived.OneCell
import Derived.Deep.DeepFit
import Derived.Deep.LoopGhost
import Derived.Deep.AppendLies
import Derived.Deep.QuietTactic
import Derived.BigQuiet
set_option linter.all false
set_option maxRecDepth 100000
set_option maxHeartbeats 8000000
namespace Go.Proofs.YtfgdhcemidlnfaaGreatDoor
open Go.RowKit Fo
theorem u8_all (p : UInt8 → Bool) (h : (List.range 256).all (fun n => p (UInt8.ofNat n)) = true) (c : UInt8) : p c = true:=by
 have:=List.all_eq_true.1 h c.toNat (List.mem_range.2 (UInt8.toNat_lt c))
 simpa using this
theorem white_ix (c : UInt8) : decide (0 ≤ Lib.indexByte [0,9,10,12,13,32] c) = white c:=by
 simpa using u8_all (fun c => decide (0 ≤ Lib.indexByte [0,9,10,12,13,32] c) == white c) (by decide +kernel) c
theorem delim_ix (c : UInt8) : decide (0 ≤ Lib.indexByte [40,41,60,62,91,93,123,125,47,37] c) = delim c:=by
 simpa using u8_all (fun c => decide (0 ≤ Lib.indexByte [40,41,60,62,91,93,123,125,47,37] c) == delim c) (by decide +kernel) c
theorem ret_bool {a b : Bool} (h : a = b) : Ending.returned (.bool a) = .returned (.bool b):=by rw [h]
theorem ret_int {k : IntKind} {a b : Int} (h : a = b) : Ending.returned (.int k a) = .returned (.int k b):=by rw [h]
theorem white_any (c : UInt8) (w : World) :
   Calls Tryz.prog 207 #[.int .u8 c.toNat] w fun e w' => e = .returned (.bool (white c)) ∧ w' = w:=by
 go_enter Tryz.func207,Tryz.ntmps207
 go_wp2_with (go_at_call 211;refine (Tryz.strings_IndexByte _ _ _).mono ?_;rintro e w' ⟨rfl,rfl⟩)
 go_ret
 exact ⟨ret_bool (by simpa using white_ix c),rfl⟩
theorem delim_any (c : UInt8) (w : World) :
   Calls Tryz.prog 208 #[.int .u8 c.toNat] w fun e w' => e = .returned (.bool (delim c)) ∧ w' = w:=by
 go_enter Tryz.func208,Tryz.ntmps208
 go_wp2_with (go_at_call 211;refine (Tryz.strings_IndexByte _ _ _).mono ?_;rintro e w' ⟨rfl,rfl⟩)
 go_ret
 exact ⟨ret_bool (by simpa using delim_ix c),rfl⟩
theorem regular_any (c : UInt8) (w : World) :
   Calls Tryz.prog 172 #[.int .u8 c.toNat] w fun e w' => e = .returned (.bool (regular c)) ∧ w' = w:=by
 go_enter Tryz.func172,Tryz.ntmps172
 go_wp2_with (first | (go_at_call 207;refine (white_any _ _).mono ?_;rintro e w' ⟨rfl,rfl⟩) | (go_at_call 208;refine (delim_any _ _).mono ?_;rintro e w' ⟨rfl,rfl⟩))
 all_goals go_ret
 all_goals exact ⟨ret_bool (by simp_all [regular]),rfl⟩
theorem u8k (c : UInt8) (n : Nat) (h : n < 256) : ((c.toNat : Int) == (n : Int)) = (c == UInt8.ofNat n):=by
 rw [Bool.eq_iff_iff];simp only [beq_iff_eq,← UInt8.toNat_inj,UInt8.toNat_ofNat_of_lt' (show n < UInt8.size from h)];omega
theorem drop_get (s : ByteArray) (k : Nat) (h : k < s.size) : s.data.toList.drop k = s[k] :: s.data.toList.drop (k + 1):=by
 rw [List.drop_eq_getElem_cons (by simpa using h)];rfl
theorem eq_yes {c : UInt8} {n : Nat} (hn : n < 256) (h : c = UInt8.ofNat n) : ((c.toNat : Int) == (n : Int)) = true:=by rw [u8k c n hn];simpa using h
theorem eq_no {c : UInt8} {n : Nat} (hn : n < 256) (h : ¬ c = UInt8.ofNat n) : ((c.toNat : Int) == (n : Int)) = false:=by rw [u8k c n hn];simpa using h
theorem Tryz.infoU8 : (Tryz.prog.info? 5).map (fun i => (i.zero,i.size,i.bytes)) = some (some (.int .u8 0),1,1):=by kernel_rfl
theorem bcell {W w1 : World} (hb : Below W.heap.size W w1) : (∀ b o,b < W.heap.size → w1.cell? ⟨b,o,none⟩ = W.cell? ⟨b,o,none⟩) ∧ (∀ b o,b < W.heap.size → w1.frozen? ⟨b,o,none⟩ = W.frozen? ⟨b,o,none⟩) :=
 ⟨fun b o h => hb.cell (p:=⟨b,o,none⟩) h,fun b o h => hb.frozen (p:=⟨b,o,none⟩) h⟩
theorem belowIter {B : Nat} {a w : World} (h : Below B a w) (hB : B ≤ w.heap.size) (s : ByteArray) (p : Nat) : Below B a (w.iter s p):=h.alloc hB _
theorem bT {B C : Nat} {a b c : World} (h : Below C b c) (k : Below B a b) (e : B ≤ C) : Below B a c:=k.trans (h.mono e)
theorem belowDrewN {B : Nat} {a w : World} (h : Below B a w) (n : Nat) : Below B a (w.drewN n):=⟨h.os,h.tape,h.output,h.size,h.block⟩
theorem bel {B : Nat} {a b : World} (h : Below B a b:=by repeat' (first | (with_reducible first | exact Below.refl _ _ | refine Below.drew ?_ | refine belowDrewN ?_ _ | refine belowIter ?_ ?_ _ _ | refine Below.setCell ?_ ?_ _ | refine Below.alloc ?_ ?_ _ | refine bT hb4 ?_ ?_ | refine bT hb3 ?_ ?_ | refine bT hb2 ?_ ?_ | refine bT hb1 ?_ ?_ | refine bT hbr ?_ ?_ | refine bT hb ?_ ?_) | (simp;done) | (simp;omega) | omega)) : Below B a b:=h
theorem Lh {p : Prop} (h : p) : Hid p:=Lib.hid h
def ownB (w : World) (B : Nat) (v : Value) (l : L) : Prop:=w.ownsRow B 5 1 v l.length (l.map fun c => .int .u8 c.toNat)
theorem ownB_nil (w : World) (B : Nat) : ownB w B (.slice none 0 0) []:=⟨by simp,.inl ⟨rfl,rfl⟩⟩
theorem ownB_below {w w' : World} {B : Nat} {v : Value} {l : L} (h : ownB w B v l) (hb : Below w.heap.size w w') : ownB w' B v l :=
 World.ownsRow.kept h (row:=none) ⟨hb.os,hb.tape,hb.output,hb.size,fun k hk _ => hb.block k hk⟩ (Classical.em _)
theorem ownB_slice {w : World} {B : Nat} {v : Value} {l : L} (h : ownB w B v l) : ∃ p c,v = .slice p l.length c:=by
 rcases h.2 with ⟨h1,h2⟩ | ⟨g,cap,cur,h1,_⟩
 · exact ⟨none,0,by rw [h1,h2]⟩
 · exact ⟨_,_,h1⟩
theorem own_base {w : World} {B : Nat} {e : TypeId} {s n : Nat} {v : Value} {xs : List Value} (h : w.ownsRow B e s v n xs) : ∀ k,v.ownBlock = some k → B ≤ k:=by
 rcases h.2 with ⟨h1,_⟩ | ⟨g,cap,cur,h1,h2,_⟩
 · subst h1;intro k hk;simp [Value.ownBlock] at hk
 · subst h1;intro k hk;simp [Value.ownBlock] at hk;omega
theorem u8_back (n : Int) (h0 : 0 ≤ n) (h1 : n < 256) : ((UInt8.ofNat n.toNat).toNat : Int) = n:=by
 simp only [UInt8.toNat_ofNat'];omega
theorem foldl_push (l : L) (r : ByteArray) : (l.map fun c => ((c.toNat : Nat) : Int)).foldl (fun (r : ByteArray) (n : Int) => r.push (UInt8.ofNat n.toNat)) r = ⟨r.data ++ l.toArray⟩:=by
 induction l generalizing r with
 | nil => simp
 | cons c l ih =>
   simp only [List.map_cons,List.foldl_cons]
   rw [ih]
   simp [ByteArray.push]
theorem convB {w : World} {B : Nat} {v : Value} {l : L} (h : ownB w B v l) : (Go.convert 98 9 v).run Tryz.prog w = .ok (.string ⟨l.toArray⟩) w:=by
 rcases h.2 with ⟨h1,h2⟩ | ⟨g,cap,cur,h1,h2,h3,h4,h5,h6,h7⟩
 · have hl : l = []:=List.eq_nil_of_length_eq_zero h2
   subst hl;subst h1
   rw [run_convert_bytes_string w _ _ 5 _ _ _ Tryz.underlying98 Tryz.underlying5 Tryz.underlying9]
   rfl
 · subst h1
   rw [run_convert_bytes_string w _ _ 5 _ _ _ Tryz.underlying98 Tryz.underlying5 Tryz.underlying9]
   rw [run_bytesToString w _ _ _ (l.map fun c => (c.toNat : Int)),foldl_push]
   · show Result.ok (Value.string ⟨#[] ++ l.toArray⟩) w = _
     simp
   · have hc := run_loadCells_list (P := Tryz.prog) (w := w) ⟨g, 0, none⟩ (l.map fun c => Value.int .u8 c.toNat) (by
       intro j u hj
       have:=World.ownsRow.cellAt (base:=B) (e:=5) (size:=1) (g:=g) (cap:=cap) (w:=w) (xs:=l.map fun c => Value.int .u8 c.toNat) (n:=l.length) ⟨h.1,.inr ⟨g,cap,cur,rfl,h2,h3,h4,h5,h6,h7⟩⟩ j (by
         have:=(List.getElem?_eq_some_iff.1 hj).1;simpa using this)
       rw [hj] at this
       rw [← this]
       cases j <;> simp [Addr.add])
     simpa [List.map_map,Function.comp_def] using hc
def bldB (w : World) (B : Nat) (l : L) : Prop:=Lib.IsBuilder 100 5 B B (Lib.byteCells l) w
theorem bldB_below {w w' : World} {B : Nat} {l : L} (h : bldB w B l) (hb : Below w.heap.size w w') : bldB w' B l:=by
 have key : ∀ p,Lib.BuilderAt 100 5 B B p (Lib.byteCells l) w → Lib.BuilderAt 100 5 B B p (Lib.byteCells l) w':=by
   rintro p h
   have hlt:=h.lt
   obtain ⟨h1,v,h2,h3,h4⟩:=h
   exact ⟨h1,v,by rw [hb.block B hlt];exact h2,World.ownsRow.kept h3 (row:=none) ⟨hb.os,hb.tape,hb.output,hb.size,fun k hk _ => hb.block k hk⟩ (Classical.em _),h4⟩
 rcases h with h | h
 · exact .inl (key _ h)
 · exact .inr (key _ h)
theorem bldB_fresh (w : World) : bldB (w.alloc (.cells #[.pointer none,.slice none 0 0] 100)) w.heap.size []:=Lib.fresh_isBuilder _ _ w
theorem bld_byte (B : Nat) (l : L) (n : Int) (h0 : 0 ≤ n) (h1 : n < 256) (w : World) (h : bldB w B l) (hl : l.length + 1 ≤ 140737488355328) (hB : B ≤ w.heap.size) :
   Calls Tryz.prog 173 #[.pointer (some ⟨B,0,none⟩),.int .u8 n] w fun e w' => e = .returned .nilIface ∧ bldB w' B (l ++ [UInt8.ofNat n.toNat]) ∧ Below B w w':=by
 refine (Tryz.Builder_WriteByte B B _ _ w h (by rw [Lib.byteCells_length];exact hl) hB).mono fun e w' ⟨g1,g2,g3⟩ => ⟨g1,.inr ?_,g3⟩
 rw [show Lib.byteCells (l ++ [UInt8.ofNat n.toNat]) = Lib.byteCells l ++ [.int .u8 n] by simp only [Lib.byteCells,List.map_append,List.map_cons,List.map_nil,u8_back n h0 h1]]
 exact g2
theorem bld_str (B : Nat) (l : L) (s : ByteArray) (w : World) (h : bldB w B l) (hl : l.length + s.size ≤ 140737488355328) (hB : B ≤ w.heap.size) :
   Calls Tryz.prog 52 #[.pointer (some ⟨B,0,none⟩),.string s] w fun e w' => e = .returned (.tuple #[.int .i64 s.size,.nilIface]) ∧ bldB w' B (l ++ s.data.toList) ∧ Below B w w':=by
 refine (Tryz.Builder_WriteString B B _ _ w h (by rw [Lib.byteCells_length];exact hl) hB).mono fun e w' ⟨h1,h2,h3⟩ => ⟨h1,.inr ?_,h3⟩
 simpa [Lib.byteCells,Lib.strCells] using h2
theorem bld_get (B : Nat) (l : L) (w : World) (h : bldB w B l) (hB : B ≤ w.heap.size) :
   Calls Tryz.prog 54 #[.pointer (some ⟨B,0,none⟩)] w fun e w' => e = .returned (.string ⟨l.toArray⟩) ∧ Below B w w' :=
 Tryz.Builder_String_any B B l w h hB
structure Enc (α : Type) where
 k : Nat
 cells : α → List Value
 len : ∀ x,(cells x).length = k
 one : ∀ x,∀ u ∈ cells x,u.oneCell' = true
variable {α : Type}
def Enc.row (E : Enc α) (xs : List α) : List Value:=xs.flatMap E.cells
theorem Enc.row_length (E : Enc α) (xs : List α) : (E.row xs).length = xs.length * E.k:=by
 induction xs with
 | nil => simp [Enc.row]
 | cons x xs ih =>
   show (E.cells x ++ E.row xs).length = _
   rw [List.length_append,E.len,ih,List.length_cons,Nat.succ_mul];omega
theorem Enc.row_at (E : Enc α) (xs : List α) (j : Nat) (hj : j < xs.length) (i : Nat) (hi : i < E.k) : (E.row xs)[j * E.k + i]? = (E.cells xs[j])[i]?:=by
 induction xs generalizing j with
 | nil => exact absurd hj (Nat.not_lt_zero _)
 | cons x xs ih =>
   have e : E.row (x :: xs) = E.cells x ++ E.row xs:=rfl
   match j with
   | 0 =>
     rw [e,Nat.zero_mul,Nat.zero_add,List.getElem?_append_left (by rw [E.len];exact hi)];rfl
   | j + 1 =>
     rw [e,List.getElem?_append_right (by rw [E.len,Nat.succ_mul];omega),E.len,show (j + 1) * E.k + i - E.k = j * E.k + i by rw [Nat.succ_mul];omega]
     exact ih j (by simpa using hj)
theorem Enc.row_append (E : Enc α) (xs ys : List α) : E.row (xs ++ ys) = E.row xs ++ E.row ys:=by
 unfold Enc.row;rw [List.flatMap_append]
def rownS (E : Enc α) (t : TypeId) (w : World) (B : Nat) (v : Value) (xs : List α) : Prop:=w.ownsRow B t E.k v xs.length (E.row xs)
variable {E : Enc α} {t : TypeId}
theorem rownS_nil (w : World) (B : Nat) : rownS E t w B (.slice none 0 0) []:=⟨by simp [Enc.row],.inl ⟨rfl,rfl⟩⟩
theorem rown_slice {w : World} {B n k : Nat} {t : TypeId} {v : Value} {xs : List Value} (h : w.ownsRow B t k v n xs) : ∃ p c,v = .slice p n c:=by
 rcases h.2 with ⟨rfl,h0⟩ | ⟨g,cap,cur,rfl,_⟩
 · exact ⟨none,0,by rw [h0]⟩
 · exact ⟨_,cap,rfl⟩
theorem rownS.below {w w' : World} {B : Nat} {v : Value} {xs : List α} (h : rownS E t w B v xs) (hb : Below w.heap.size w w') : rownS E t w' B v xs :=
 World.ownsRow.kept h (row:=none) ⟨hb.os,hb.tape,hb.output,hb.size,fun k hk _ => hb.block k hk⟩ (Classical.em _)
theorem rownS.low {w : World} {B B' : Nat} {v : Value} {xs : List α} (h : rownS E t w B' v xs) (hB : B ≤ B') : rownS E t w B v xs:=by
 rcases h with ⟨h0,h1 | ⟨g,cap,cur,h1,h2,h3⟩⟩
 · exact ⟨h0,.inl h1⟩
 · exact ⟨h0,.inr ⟨g,cap,cur,h1,by omega,h3⟩⟩
def RArg (E : Enc α) (w : World) (v : Value) (xs : List α) : Prop:=∃ p c,v = .slice p xs.length c ∧ ∀ j (hj : j < xs.length),∃ g off,p = some ⟨g,off,none⟩ ∧ g < w.heap.size ∧
 ∀ i u,(E.cells xs[j])[i]? = some u → w.cell? ⟨g,off + j * E.k + i,none⟩ = some u
theorem RArg.below {w w' : World} {v : Value} {xs : List α} (h : RArg E w v xs) (hb : Below w.heap.size w w') : RArg E w' v xs:=by
 obtain ⟨p,c,rfl,h⟩:=h
 refine ⟨p,c,rfl,fun k hk => ?_⟩
 obtain ⟨g,off,h1,h2,h3⟩:=h k hk
 have hz:=hb.size
 exact ⟨g,off,h1,by omega,fun i u hu => (World.cell?_of_block (hb.block g h2)).trans (h3 i u hu)⟩
theorem RArg.nil (w : World) : RArg E w (.slice none 0 0) []:=⟨none,0,rfl,fun k hk => absurd hk (Nat.not_lt_zero _)⟩
theorem rownS.arg {w : World} {B : Nat} {v : Value} {xs : List α} (h : rownS E t w B v xs) : RArg E w v xs:=by
 obtain ⟨p,c,rfl⟩:=rown_slice h
 have h0:=h
 rcases h.2 with ⟨h1,h2⟩ | ⟨g,cap,cur,h1,h2,h3,h4,h5,h6,h7⟩
 · exact ⟨p,c,rfl,fun k hk => by omega⟩
 · simp only [Value.slice.injEq] at h1
   obtain ⟨rfl,hl,rfl⟩:=h1
   refine ⟨_,_,rfl,fun k hk => ⟨g,0,rfl,(Array.getElem?_eq_some_iff.1 h3).1,fun i u hu => ?_⟩⟩
   have hi : i < E.k:=by have:=(List.getElem?_eq_some_iff.1 hu).1;rw [E.len] at this;exact this
   have hlt : k * E.k + i < xs.length * E.k:=by
     have : (k + 1) * E.k ≤ xs.length * E.k:=Nat.mul_le_mul_right _ hk
     rw [Nat.succ_mul] at this;omega
   have:=World.ownsRow.cellAt h0 (k * E.k + i) hlt
   rw [Nat.zero_add,this,E.row_at xs k hk i hi,hu]
theorem rappend {ops : Array Oper} {rest : List Oper} {o : Oper} {a : Act} {Q : Exit → Act → World → Prop} {w : World} (hgd : o.guard = none) (s x : Operand) {ts : TypeId}
   (ho : o.op = .call { callee:=.builtin .append,args:=#[s,x],argTypes:=#[ts,ts] }) (ht : Tryz.prog.underlying ts = some (.slice t))
   {z : Value} {by' : Nat} (hin : (Tryz.prog.info? t).map (fun i => (i.zero,i.size,i.bytes)) = some (some z,E.k,by')) (hzk : z.cells.size = E.k) (hk0 : 0 < E.k) (hby : by' ≤ 1000)
   (B : Nat) (v : Value) (xs : List α) (y : α) (hown : rownS E t w B v xs) (hs : a.eval s = v)
   (hx : a.eval x = .slice (some ⟨w.heap.size,0,none⟩) 1 1) (hlen : xs.length ≤ 1000000000) (hB : B ≤ w.heap.size)
   (h : ∀ p q w',rownS E t w' B (.slice p (xs.length + 1) q) (xs ++ [y]) → Below B w w' → w.heap.size < w'.heap.size → (w.alloc (.cells (E.cells y).toArray t)).grownBy w' v.ownBlock → wpList Tryz.prog ops Q rest (a.put o.dst (.slice p (xs.length + 1) q)) w') :
   wpList Tryz.prog ops Q (o :: rest) a (w.alloc (.cells (E.cells y).toArray t)):=by
 obtain ⟨i0,hi,hz0,hz1,hz2⟩:=info_parts hin
 refine wpList_append_own _ hgd s x ts ho B t i0 z E.k by' ht hi hz0 hz1 hz2 hzk hk0 v xs.length _ hs (World.ownsRow.alloc hown _) ⟨w.heap.size,0,none⟩ 1 1 (E.cells y) hx (by rw [E.len];omega) ?_ ?_ ?_ ?_ ?_ ?_
 · exact World.news_of_block (cs:=(E.cells y).toArray) (t:=t) (fr:=(0,0)) (heap_alloc_new w _)
 · exact E.one y
 · unfold maxLen;omega
 · exact Nat.le_trans (Nat.mul_le_mul_left _ hby) (by omega)
 · simp;omega
 · intro v' w' hown' hg _
   obtain ⟨p,q,rfl⟩:=rown_slice hown'
   refine h p q w' ?_ (((Below.refl B w).alloc hB _).trans ((Below.refl B _).grown hg (by simp;omega) (own_base hown))) (by have:=hg.size;simp at this;omega) hg
   unfold rownS
   rw [E.row_append,List.length_append]
   simpa [Enc.row] using hown'
def KeysAt (S : Nat → Prop) (w : World) (v : Value) (ks : List L) : Prop :=
 (ks = [] ∧ ∃ p c,v = .slice p 0 c) ∨
 ∃ b o c,v = .slice (some ⟨b,o,none⟩) ks.length c ∧ S b ∧ ∀ i (h : i < ks.length),w.cell? ⟨b,o + i,none⟩ = some (.string ⟨(ks[i]).toArray⟩)
def objCells (k n g : Int) (s : L) (kv dv : Value) : List Value:=[.int .i64 k,.int .i64 n,.int .i64 g,.string ⟨s.toArray⟩,kv,dv]
def ObjAt (S : Nat → Prop) : Nat → World → List Value → Ob → Prop
 | 0,_,_,_ => False
 | d + 1, w, cs, o => ∃ kv dv, cs = objCells o.kind o.n o.g o.s kv dv ∧ KeysAt S w kv o.keys ∧
     ((o.kids = [] ∧ ∃ p c,dv = .slice p 0 c) ∨
      ∃ b off c,dv = .slice (some ⟨b,off,none⟩) o.kids.length c ∧ S b ∧
        ∀ i (h : i < o.kids.length),∃ ks : List Value,ks.length = 6 ∧ (∀ j (hj : j < ks.length),w.cell? ⟨b,off + 6 * i + j,none⟩ = some ks[j]) ∧ ObjAt S d w ks o.kids[i])
theorem KeysAt.kept {S : Nat → Prop} {w w' : World} {v : Value} {ks : List L} (h : KeysAt S w v ks) (hk : ∀ b,S b → w'.heap[b]? = w.heap[b]?) : KeysAt S w' v ks:=by
 rcases h with h | ⟨b,o,c,h1,h2,h3⟩
 · exact .inl h
 · exact .inr ⟨b,o,c,h1,h2,fun i hi => (World.cell?_of_block (hk b h2)).trans (h3 i hi)⟩
theorem ObjAt.kept {S : Nat → Prop} {w w' : World} (hk : ∀ b,S b → w'.heap[b]? = w.heap[b]?) : ∀ (d : Nat) {cs : List Value} {o : Ob},ObjAt S d w cs o → ObjAt S d w' cs o
 | 0,_,_,h => h
 | d + 1,cs,o,h => by
   obtain ⟨kv,dv,h1,h2,h3⟩:=h
   refine ⟨kv,dv,h1,h2.kept hk,?_⟩
   rcases h3 with h3 | ⟨b,off,c,h4,h5,h6⟩
   · exact .inl h3
   · refine .inr ⟨b,off,c,h4,h5,fun i hi => ?_⟩
     obtain ⟨ks,g1,g2,g3⟩:=h6 i hi
     exact ⟨ks,g1,fun j hj => (World.cell?_of_block (hk b h5)).trans (g2 j hj),ObjAt.kept hk d g3⟩
theorem KeysAt.weaken {S S' : Nat → Prop} {w : World} {v : Value} {ks : List L} (h : KeysAt S w v ks) (hk : ∀ b,S b → b < w.heap.size → S' b) : KeysAt S' w v ks:=by
 rcases h with h | ⟨b,o,c,h1,h2,h3⟩
 · exact .inl h
 · by_cases he : ks = []
   · exact .inl ⟨he,_,_,by rw [h1,he];rfl⟩
   · have h0:=h3 0 (List.length_pos_iff.2 he)
     have hlt : b < w.heap.size:=by
       apply Classical.byContradiction;intro hn
       simp [World.cell?,Array.getElem?_eq_none (Nat.not_lt.1 hn)] at h0
     exact .inr ⟨b,o,c,h1,hk b h2 hlt,h3⟩
theorem ObjAt.weaken {S S' : Nat → Prop} {w : World} (hk : ∀ b,S b → b < w.heap.size → S' b) : ∀ (d : Nat) {cs : List Value} {o : Ob},ObjAt S d w cs o → ObjAt S' d w cs o
 | 0,_,_,h => h
 | d + 1,cs,o,h => by
   obtain ⟨kv,dv,h1,h2,h3⟩:=h
   refine ⟨kv,dv,h1,h2.weaken hk,?_⟩
   rcases h3 with h3 | ⟨b,off,c,h4,h5,h6⟩
   · exact .inl h3
   · by_cases he : o.kids = []
     · exact .inl ⟨he,_,_,by rw [h4,he];rfl⟩
     · obtain ⟨ks,g1,g2,_⟩:=h6 0 (List.length_pos_iff.2 he)
       have h0:=g2 0 (by omega)
       have hlt : b < w.heap.size:=by
         apply Classical.byContradiction;intro hn
         simp [World.cell?,Array.getElem?_eq_none (Nat.not_lt.1 hn)] at h0
       refine .inr ⟨b,off,c,h4,hk b h5 hlt,fun i hi => ?_⟩
       obtain ⟨ks,g1,g2,g3⟩:=h6 i hi
       exact ⟨ks,g1,g2,ObjAt.weaken hk d g3⟩
theorem ObjAt.up {S : Nat → Prop} {w : World} : ∀ (d : Nat) {cs : List Value} {o : Ob},ObjAt S d w cs o → ObjAt S (d + 1) w cs o
 | 0,_,_,h => h.elim
 | d + 1,cs,o,h => by
   obtain ⟨kv,dv,h1,h2,h3⟩:=h
   refine ⟨kv,dv,h1,h2,?_⟩
   rcases h3 with h3 | ⟨b,off,c,h4,h5,h6⟩
   · exact .inl h3
   · refine .inr ⟨b,off,c,h4,h5,fun i hi => ?_⟩
     obtain ⟨ks,g1,g2,g3⟩:=h6 i hi
     exact ⟨ks,g1,g2,ObjAt.up d g3⟩
theorem heap_new_at (w : World) (o : Go.Obj) (b : Nat) (h : b = w.heap.size) : (w.alloc o).heap[b]? = some o:=by subst h;exact heap_alloc_new w o
theorem six_of {w : World} {b : Nat} {t : TypeId} {v0 v1 v2 v3 v4 v5 : Value} (h : w.heap[b]? = some (.cells #[v0, v1, v2, v3, v4, v5] t (0, 0))) :
   w.cell? ⟨b,0,none⟩ = some v0 ∧ w.cell? ⟨b,1,none⟩ = some v1 ∧ w.cell? ⟨b,2,none⟩ = some v2 ∧ w.cell? ⟨b,3,none⟩ = some v3 ∧ w.cell? ⟨b,4,none⟩ = some v4 ∧ w.cell? ⟨b,5,none⟩ = some v5 ∧ ∀ o,w.frozen? ⟨b,o,none⟩ = false:=by
 simp [World.cell?,World.frozen?,h]
theorem own_slice {w : World} {B sz n : Nat} {e : TypeId} {v : Value} {xs : List Value} (h : w.ownsRow B e sz v n xs) : ∃ p c,v = .slice p n c:=by
 rcases h.2 with ⟨h1,h2⟩ | ⟨g,cap,cur,h1,_⟩
 · exact ⟨none,0,by rw [h1,h2]⟩
 · exact ⟨_,_,h1⟩
theorem ObjAt.shape {S : Nat → Prop} {d : Nat} {w : World} {cs : List Value} {o : Ob} (h : ObjAt S d w cs o) : ∃ p1 n1 c1 p2 n2 c2,cs = objCells o.kind o.n o.g o.s (.slice p1 n1 c1) (.slice p2 n2 c2):=by
 cases d with
 | zero => exact h.elim
 | succ d =>
   obtain ⟨kv,dv,h1,h2,h3⟩:=h
   have a1 : ∃ p n c,kv = .slice p n c:=by
     rcases h2 with ⟨_,p,c,h⟩ | ⟨b,o,c,h,_⟩
     · exact ⟨_,_,_,h⟩
     · exact ⟨_,_,_,h⟩
   have a2 : ∃ p n c,dv = .slice p n c:=by
     rcases h3 with ⟨_,p,c,h⟩ | ⟨b,o,c,h,_⟩
     · exact ⟨_,_,_,h⟩
     · exact ⟨_,_,_,h⟩
   obtain ⟨p1,n1,c1,rfl⟩:=a1
   obtain ⟨p2,n2,c2,rfl⟩:=a2
   exact ⟨p1,n1,c1,p2,n2,c2,h1⟩
theorem Tryz.infoOb : (Tryz.prog.info? 26).map (fun i => (i.zero,i.size,i.bytes)) = some (some (.agg #[.int .i64 0,.int .i64 0,.int .i64 0,.string ⟨#[]⟩,.slice none 0 0,.slice none 0 0]),6,88):=by kernel_rfl
theorem ObjAt.grow {S S' : Nat → Prop} {w w' : World} {d : Nat} {cs : List Value} {o : Ob} (h : ObjAt S d w cs o)
   (hk : ∀ b,S b → b < w.heap.size → S' b ∧ w'.heap[b]? = w.heap[b]?) : ObjAt S' d w' cs o :=
 (ObjAt.kept (S:=fun b => S' b ∧ w'.heap[b]? = w.heap[b]?) (fun b hb => hb.2) d (h.weaken (fun b h1 h2 => hk b h1 h2) d)).weaken (fun b h _ => h.1) d
def KidsAt (S : Nat → Prop) (d : Nat) (w : World) (css : List (List Value)) (acc : List Ob) : Prop :=
 css.length = acc.length ∧ ∀ (i : Nat) (cs : List Value) (o : Ob),css[i]? = some cs → acc[i]? = some o → cs.length = 6 ∧ ObjAt S d w cs o
theorem KidsAt.nil {S : Nat → Prop} {d : Nat} {w : World} : KidsAt S d w [] []:=⟨rfl,fun i cs o h => by simp at h⟩
theorem KidsAt.grow {S S' : Nat → Prop} {w w' : World} {d : Nat} {css : List (List Value)} {acc : List Ob} (h : KidsAt S d w css acc)
   (hk : ∀ b,S b → b < w.heap.size → S' b ∧ w'.heap[b]? = w.heap[b]?) : KidsAt S' d w' css acc :=
 ⟨h.1,fun i cs o h1 h2 => ⟨(h.2 i cs o h1 h2).1,(h.2 i cs o h1 h2).2.grow hk⟩⟩
theorem flat6 {css : List (List Value)} (h : ∀ cs ∈ css,cs.length = 6) : css.flatten.length = 6 * css.length:=by
 induction css with
 | nil => rfl
 | cons c css ih =>
   rw [List.flatten_cons,List.length_append,h c (by simp),ih (fun x hx => h x (by simp [hx])),List.length_cons];omega
theorem flat6_get {css : List (List Value)} (h : ∀ cs ∈ css,cs.length = 6) {i j : Nat} {cs : List Value} (hi : css[i]? = some cs) (hj : j < 6) : css.flatten[6 * i + j]? = cs[j]?:=by
 induction css generalizing i with
 | nil => simp at hi
 | cons c css ih =>
   rw [List.flatten_cons]
   have hc : c.length = 6:=h c (by simp)
   cases i with
   | zero =>
     simp at hi;subst hi
     rw [List.getElem?_append_left (by omega)];simp
   | succ i =>
     simp at hi
     rw [List.getElem?_append_right (by omega),hc,show 6 * (i + 1) + j - 6 = 6 * i + j by omega]
     exact ih (fun x hx => h x (by simp [hx])) hi
theorem KidsAt.six {S : Nat → Prop} {w : World} {d : Nat} {css : List (List Value)} {acc : List Ob} (h : KidsAt S d w css acc) : ∀ cs ∈ css,cs.length = 6:=by
 intro cs hcs
 obtain ⟨i,hi,rfl⟩:=List.mem_iff_getElem.1 hcs
 have hi2 : i < acc.length:=by rw [← h.1];exact hi
 exact (h.2 i _ acc[i] (List.getElem?_eq_getElem hi) (List.getElem?_eq_getElem hi2)).1
theorem kids_at {S S' : Nat → Prop} {w : World} {B d : Nat} {v : Value} {css : List (List Value)} {acc : List Ob} (h : w.ownsRow B 26 6 v acc.length css.flatten) (hk : KidsAt S d w css acc)
   (hS : ∀ b,S b → S' b) (hB : ∀ b,B ≤ b → S' b) :
   (acc = [] ∧ ∃ p c,v = .slice p 0 c) ∨ ∃ b off c,v = .slice (some ⟨b,off,none⟩) acc.length c ∧ S' b ∧
     ∀ i (h : i < acc.length),∃ ks : List Value,ks.length = 6 ∧ (∀ j (hj : j < ks.length),w.cell? ⟨b,off + 6 * i + j,none⟩ = some ks[j]) ∧ ObjAt S' d w ks acc[i]:=by
 rcases h.2 with ⟨h1,h2⟩ | ⟨g,cap,cur,h1,h2,h3⟩
 · exact .inl ⟨List.eq_nil_of_length_eq_zero h2,_,_,h1⟩
 · refine .inr ⟨g,0,cap,h1,hB g h2,fun i hi => ?_⟩
   have hi' : i < css.length:=by rw [hk.1];exact hi
   have hks:=hk.2 i css[i] acc[i] (List.getElem?_eq_getElem hi') (List.getElem?_eq_getElem hi)
   refine ⟨css[i],hks.1,fun j hj => ?_,hks.2.weaken (fun b hb _ => hS b hb) d⟩
   have hlen : 6 * i + j < acc.length * 6:=by have:=hks.1;omega
   have hcell:=World.ownsRow.cellAt (g:=g) (cap:=cap) (by rw [← h1];exact h) (6 * i + j) hlen
   rw [show 0 + 6 * i + j = 6 * i + j by omega,hcell,flat6_get hk.six (List.getElem?_eq_getElem hi') (by have:=hks.1;omega)]
   exact List.getElem?_eq_getElem hj
theorem objCells_one (o : Ob) (p1 : Option Addr) (n1 c1 : Nat) (p2 : Option Addr) (n2 c2 : Nat) : ∀ u ∈ objCells o.kind o.n o.g o.s (.slice p1 n1 c1) (.slice p2 n2 c2),u.oneCell' = true:=by
 intro u hu;simp [objCells] at hu;rcases hu with rfl | rfl | rfl | rfl | rfl | rfl <;> rfl
theorem set1_grown {a w : World} {b : Nat} (h : a.grownBy w (some b)) (o : Nat) (v : Value) : a.grownBy (w.setCell ⟨b,o,none⟩ v) (some b) :=
 ⟨h.os,h.tape,h.output,by simp [World.setCell];exact h.size,fun k h1 h2 => (Below.heap_setCell _ _ _ _ (fun hk => h2 (by rw [hk]))).trans (h.block k h1 h2)⟩
theorem set6_grown (w : World) (b o0 o1 o2 o3 o4 o5 : Nat) (v0 v1 v2 v3 v4 v5 : Value) :
   w.grownBy ((((((w.setCell ⟨b,o0,none⟩ v0).setCell ⟨b,o1,none⟩ v1).setCell ⟨b,o2,none⟩ v2).setCell ⟨b,o3,none⟩ v3).setCell ⟨b,o4,none⟩ v4).setCell ⟨b,o5,none⟩ v5) (some b) :=
 set1_grown (set1_grown (set1_grown (set1_grown (set1_grown (set1_grown ⟨rfl,rfl,rfl,Nat.le_refl _,fun _ _ _ => rfl⟩ _ _) _ _) _ _) _ _) _ _) _ _
theorem flat_set {css : List (List Value)} {i : Nat} {u0 u1 u2 u3 u4 u5 : Value} (h : ∀ cs ∈ css, cs.length = 6) (hi : i < css.length) :
   ((((((css.flatten.set (6 * i) u0).set (6 * i + 1) u1).set (6 * i + 2) u2).set (6 * i + 3) u3).set (6 * i + 4) u4).set (6 * i + 5) u5) = (css.set i [u0,u1,u2,u3,u4,u5]).flatten:=by
 induction css generalizing i with
 | nil => simp at hi
 | cons c css ih =>
   have hc : c.length = 6:=h c (by simp)
   cases i with
   | zero =>
     obtain ⟨a0,a1,a2,a3,a4,a5,rfl⟩ : ∃ a0 a1 a2 a3 a4 a5,c = [a0,a1,a2,a3,a4,a5]:=by
       match c,hc with
       | [a0,a1,a2,a3,a4,a5],_ => exact ⟨_,_,_,_,_,_,rfl⟩
     simp
   | succ i =>
     have:=ih (i:=i) (fun x hx => h x (by simp [hx])) (by simpa using hi)
     rw [List.set_cons_succ,List.flatten_cons,List.flatten_cons,← this]
     have key : ∀ (l : List Value) (j : Nat) (u : Value),(c ++ l).set (6 * (i + 1) + j) u = c ++ l.set (6 * i + j) u:=fun l j u => by
       rw [List.set_append_right _ _ (by omega),hc,show 6 * (i + 1) + j - 6 = 6 * i + j by omega]
     have key0 : ∀ (l : List Value) (u : Value),(c ++ l).set (6 * (i + 1)) u = c ++ l.set (6 * i) u:=fun l u => key l 0 u
     rw [key0,key,key,key,key,key]
theorem flat_set' {css : List (List Value)} {i : Nat} {u0 u1 u2 u3 u4 u5 : Value} (h : ∀ cs ∈ css, cs.length = 6) (hi : i < css.length) :
   ((((((css.flatten.set (i * 6) u0).set (i * 6 + 1) u1).set (i * 6 + 2) u2).set (i * 6 + 3) u3).set (i * 6 + 4) u4).set (i * 6 + 5) u5) = (css.set i [u0,u1,u2,u3,u4,u5]).flatten:=by
 have:=flat_set (u0:=u0) (u1:=u1) (u2:=u2) (u3:=u3) (u4:=u4) (u5:=u5) h hi
 rw [Nat.mul_comm 6 i] at this
 exact this
theorem set_six {w : World} {b : Nat} {t : TypeId} {a0 a1 a2 a3 a4 a5 v0 v1 v2 v3 v4 v5 : Value} (h : w.heap[b]? = some (.cells #[a0, a1, a2, a3, a4, a5] t (0, 0))) :
   ((((((w.setCell ⟨b,0,none⟩ v0).setCell ⟨b,1,none⟩ v1).setCell ⟨b,2,none⟩ v2).setCell ⟨b,3,none⟩ v3).setCell ⟨b,4,none⟩ v4).setCell ⟨b,5,none⟩ v5).heap[b]? = some (.cells #[v0,v1,v2,v3,v4,v5] t (0,0)):=by
 have hlt:=lt_of_block h
 have h' : w.heap[b] = .cells #[a0,a1,a2,a3,a4,a5] t (0,0):=by simpa [Array.getElem?_eq_getElem hlt] using h
 simp only [World.setCell,Array.getElem?_modify]
 simp [h]
theorem set_fifth {w : World} {b : Nat} {t : TypeId} {v0 v1 v2 v3 v4 v5 v : Value} (h : w.heap[b]? = some (.cells #[v0, v1, v2, v3, v4, v5] t (0, 0))) :
   (w.setCell ⟨b,5,none⟩ v).heap[b]? = some (.cells #[v0,v1,v2,v3,v4,v] t (0,0)):=by
 have hlt:=lt_of_block h
 have h' : w.heap[b] = .cells #[v0,v1,v2,v3,v4,v5] t (0,0):=by simpa [Array.getElem?_eq_getElem hlt] using h
 simp only [World.setCell,Array.getElem?_modify]
 simp [h]
theorem set_fourth {w : World} {b : Nat} {t : TypeId} {v0 v1 v2 v3 v4 v5 v : Value} (h : w.heap[b]? = some (.cells #[v0, v1, v2, v3, v4, v5] t (0, 0))) :
   (w.setCell ⟨b,4,none⟩ v).heap[b]? = some (.cells #[v0,v1,v2,v3,v,v5] t (0,0)):=by
 have hlt:=lt_of_block h
 have h' : w.heap[b] = .cells #[v0,v1,v2,v3,v4,v5] t (0,0):=by simpa [Array.getElem?_eq_getElem hlt] using h
 simp only [World.setCell,Array.getElem?_modify]
 simp [h]
def cellByte : Option Value → UInt8
 | some (.int .u8 n) => UInt8.ofNat n.toNat
 | _ => 0
def isByte : Option Value → Bool
 | some (.int .u8 _) => true
 | _ => false
theorem conv_one (w : World) (g : Nat) (h : isByte (w.cell? ⟨g,0,none⟩) = true) : (Go.convert 98 9 (.slice (some ⟨g,0,none⟩) 1 1)).run Tryz.prog w = .ok (.string ⟨#[cellByte (w.cell? ⟨g,0,none⟩)]⟩) w:=by
 obtain ⟨n,hn⟩ : ∃ n,w.cell? ⟨g,0,none⟩ = some (.int .u8 n):=by
   revert h;generalize w.cell? ⟨g,0,none⟩ = x;intro h
   unfold isByte at h;split at h
   · exact ⟨_,rfl⟩
   · simp at h
 rw [run_convert_bytes_string w _ _ 5 _ _ _ Tryz.underlying98 Tryz.underlying5 Tryz.underlying9]
 rw [run_bytesToString w _ _ _ [n],hn]
 · rfl
 · have hc := run_loadCells_list (P := Tryz.prog) (w := w) ⟨g, 0, none⟩ [Value.int .u8 n] (by
     intro j u hj
     rcases j with _ | j
     · simp at hj;subst hj;exact hn
     · simp at hj)
   simpa using hc
theorem digit_lt (c : Nat) : digit c < 16:=by unfold digit;repeat' split <;> omega
theorem ext1 (s : ByteArray) (p : Nat) (hp : p < s.size) : s.extract p (p + 1) = ⟨#[s[p]]⟩:=by
 apply ByteArray.ext_iff.2
 apply Array.toList_inj.1
 rw [Lib.extract_data,drop_get s p hp]
 simp
theorem ba_app (a b : L) : (⟨a.toArray⟩ ++ ⟨b.toArray⟩ : ByteArray) = ⟨(a ++ b).toArray⟩:=by
 apply ByteArray.ext
 simp
theorem byte48 (m : Nat) : cellByte (some (Value.int .u8 ((48 : Int) + (m : Int) % 10))) = UInt8.ofNat (48 + m % 10):=by
 simp only [cellByte]
 rw [show ((48 : Int) + (m : Int) % 10).toNat = 48 + m % 10 by omega]
def strSz : Value → Nat
 | .string b => b.size
 | _ => 0
theorem strSz_s (l : L) : strSz (.string ⟨l.toArray⟩) = l.length:=rfl
def padU (k n : Nat) : L:=if n = 0 ∧ k = 0 then [] else padU (k - 1) (n / 10) ++ [UInt8.ofNat (48 + n % 10)]
termination_by n + k
decreasing_by
 by_cases h : n = 0
 · omega
 · have:=Nat.div_lt_self (Nat.pos_of_ne_zero h) (show 1 < 10 by omega);omega
theorem padU_zero : ∀ n,0 < n → padU 0 n = digU n:=by
 intro n
 induction n using Nat.strongRecOn with
 | _ n ih =>
   intro h
   rw [padU,if_neg (by omega)]
   by_cases h1 : n < 10
   · rw [show n / 10 = 0 by omega,padU,if_pos (by omega),digU,if_pos h1,show n % 10 = n by omega];rfl
   · rw [ih (n / 10) (by omega) (by omega),digU.eq_def n,if_neg h1]
theorem padU_one (n : Nat) : padU 1 n = digU n:=by
 rw [padU,if_neg (by omega)]
 by_cases h1 : n < 10
 · rw [show n / 10 = 0 by omega,padU,if_pos (by omega),digU,if_pos h1,show n % 10 = n by omega];rfl
 · rw [padU_zero (n / 10) (by omega),digU.eq_def n,if_neg h1]
theorem padU_four (m : Nat) (h : m < 10000) : padU 4 m = [UInt8.ofNat (48 + m / 1000 % 10),UInt8.ofNat (48 + m / 100 % 10),UInt8.ofNat (48 + m / 10 % 10),UInt8.ofNat (48 + m % 10)]:=by
 rw [padU,if_neg (by omega),padU,if_neg (by omega),padU,if_neg (by omega),padU,if_neg (by omega),padU,if_pos (by omega)]
 rw [show m / 10 / 10 / 10 = m / 1000 by omega,show m / 10 / 10 = m / 100 by omega]
 simp only [List.nil_append,List.cons_append]
theorem rpad (n k : Nat) (hn : n < 1000000000000) (hk : k ≤ 10) (w : World) : Calls Tryz.prog 240 #[.int .i64 n,.int .i64 k] w fun e w' => e = .returned (.string ⟨(padU k n).toArray⟩) ∧ Below w.heap.size w w':=by
 obtain ⟨T,hT⟩ : ∃ T,padU k n = T:=⟨_,rfl⟩
 rw [hT]
 have HT:=Lib.hid (show padU (k - ([] : L).length) n ++ [] = T by simpa using hT)
 clear hT
 go_enter Tryz.func240,Tryz.ntmps240
 go_wp2
 go_loopw [0,5] (fun a s wr => ∃ (m : Nat) (l : L),m < 10 ^ (12 - l.length) ∧ l.length ≤ 12 ∧ a = .int .i64 m ∧ s = .string ⟨l.toArray⟩ ∧ Below w.heap.size w wr ∧ Hid (padU (k - l.length) m ++ l = T)) (fun a s _ => (intOf a).toNat + (k - strSz s))
 case atStart => exact ⟨n,[],by simpa using hn,by simp,rfl,rfl,Below.refl _ _,HT⟩
 case round =>
   obtain ⟨m,l,hm,hl,rfl,rfl,hbr,H⟩:=hrel
   clear HT
   have hm12 : m < 10 ^ 12:=Nat.lt_of_lt_of_le hm (Nat.pow_le_pow_right (n:=10) (by decide) (by omega))
   have hm13 : m < 1000000000000:=by simpa using hm12
   clear hm12
   have HM:=Lib.hid hm
   clear hm
   by_cases hgo : 0 < m ∨ l.length < k
   · have hl11 : l.length ≤ 11 := by
       apply Classical.byContradiction;intro hc
       have h12 : l.length = 12:=by omega
       have:=HM.out
       rw [h12] at this
       simp at this
       omega
     have HX:=Lib.hid (show padU (k - (UInt8.ofNat (48 + m % 10) :: l).length) (m / 10) ++ (UInt8.ofNat (48 + m % 10) :: l) = T by
       have:=H.out
       rw [padU,if_neg (by omega),List.append_assoc] at this
       rw [List.length_cons,show k - (l.length + 1) = k - l.length - 1 by omega]
       exact this)
     have y1 : 1 + l.length ≤ 9223372036854775807:=by omega
     clear H
     by_cases hm0 : 0 < m
     · skip
       have HSTR:=Lib.hid (show (⟨#[cellByte (some (Value.int .u8 ((48 : Int) + (m : Int) % 10)))]⟩ ++ ⟨l.toArray⟩ : ByteArray) = ⟨(UInt8.ofNat (48 + m % 10) :: l).toArray⟩ by rw [byte48];exact ba_app [_] l)
       have hzr:=hbr.size
       go_wp2_with fail
       rw [conv_one _ _ (by simp [isByte,go_sem])]
       go_wp2
       go_roundw
       case rel => exact ⟨m / 10,UInt8.ofNat (48 + m % 10) :: l,by have:=HM.out;rw [show 12 - l.length = (12 - (l.length + 1)) + 1 by omega,Nat.pow_succ] at this;rw [List.length_cons];omega,by simp;omega,by go_num,by rw [HSTR.out],bel,HX⟩
       case measure => rw [HSTR.out,strSz_s,strSz_s];simp [intOf];omega
     · have hlk : l.length < k:=by omega
       have HSTR:=Lib.hid (show (⟨#[cellByte (some (Value.int .u8 ((48 : Int) + (m : Int) % 10)))]⟩ ++ ⟨l.toArray⟩ : ByteArray) = ⟨(UInt8.ofNat (48 + m % 10) :: l).toArray⟩ by rw [byte48];exact ba_app [_] l)
       have hzr:=hbr.size
       go_wp2_with fail
       rw [conv_one _ _ (by simp [isByte,go_sem])]
       go_wp2
       go_roundw
       case rel => exact ⟨m / 10,UInt8.ofNat (48 + m % 10) :: l,by have:=HM.out;rw [show 12 - l.length = (12 - (l.length + 1)) + 1 by omega,Nat.pow_succ] at this;rw [List.length_cons];omega,by simp;omega,by go_num,by rw [HSTR.out],bel,HX⟩
       case measure => rw [HSTR.out,strSz_s,strSz_s];simp [intOf];omega
   · have hm0 : ¬ 0 < m:=by omega
     have hlk : ¬ l.length < k:=by omega
     have HX:=Lib.hid (show l = T by have:=H.out;rw [padU,if_pos (by omega)] at this;exact this)
     clear H
     go_wp2
     go_ret
     exact ⟨by rw [HX.out];rfl,hbr⟩
theorem rwithinF (n : Int) (h1 : -1073741824 ≤ n) (h2 : n ≤ 1073741824) (w : World) : Calls Tryz.prog 205 #[.int .i64 n] w fun e w' => e = .returned (.bool true) ∧ w' = w:=by
 go_enter Tryz.func205,Tryz.ntmps205
 go_wp2
 go_ret
 exact ⟨rfl,rfl⟩
theorem ret_str {a b : ByteArray} (h : a.data.toList = b.data.toList) : Ending.returned (.string a) = .returned (.string b):=by
 have : a = b:=ByteArray.ext (Array.toList_inj.1 h)
 rw [this]
theorem dig48 (n : Nat) (h : n < 10) : (((UInt8.ofNat (48 + n)).toNat : Int) == 48) = (n == 0):=by
 have h2 : n = 0 ∨ n = 1 ∨ n = 2 ∨ n = 3 ∨ n = 4 ∨ n = 5 ∨ n = 6 ∨ n = 7 ∨ n = 8 ∨ n = 9:=by omega
 rcases h2 with rfl | rfl | rfl | rfl | rfl | rfl | rfl | rfl | rfl | rfl <;> decide
theorem rrealT (n : Int) (h1 : -1073741824 ≤ n) (h2 : n ≤ 1073741824) (w : World) :
   Calls Tryz.prog 228 #[.int .i64 n] w fun e w' => e = .returned (.string ⟨(realT n).toArray⟩) ∧ Below w.heap.size w w':=by
 have HW:=Lib.hid (fun W => rwithinF n h1 h2 W)
 obtain ⟨m,hm⟩ : ∃ m : Nat,n.natAbs = m:=⟨_,rfl⟩
 have hm2 : m ≤ 1073741824:=by omega
 have hp4:=fun W => rpad (m % 10000) 4 (by omega) (by omega) W
 rw [padU_four (m % 10000) (by omega),show m % 10000 / 1000 % 10 = m / 1000 % 10 by omega,show m % 10000 / 100 % 10 = m / 100 % 10 by omega,show m % 10000 / 10 % 10 = m / 10 % 10 by omega,show m % 10000 % 10 = m % 10 by omega] at hp4
 have hq:=fun W => rpad (m / 10000) 1 (by omega) (by omega) W
 rw [padU_one] at hq
 have TA:=dig48 (m / 1000 % 10) (by omega)
 have TB:=dig48 (m / 100 % 10) (by omega)
 have TC:=dig48 (m / 10 % 10) (by omega)
 have TD:=dig48 (m % 10) (by omega)
 obtain ⟨A,hA⟩ : ∃ A,UInt8.ofNat (48 + m / 1000 % 10) = A:=⟨_,rfl⟩
 obtain ⟨B,hB⟩ : ∃ A,UInt8.ofNat (48 + m / 100 % 10) = A:=⟨_,rfl⟩
 obtain ⟨C,hC⟩ : ∃ A,UInt8.ofNat (48 + m / 10 % 10) = A:=⟨_,rfl⟩
 obtain ⟨D,hD⟩ : ∃ A,UInt8.ofNat (48 + m % 10) = A:=⟨_,rfl⟩
 rw [hA] at hp4 TA
 rw [hB] at hp4 TB
 rw [hC] at hp4 TC
 rw [hD] at hp4 TD
 have hql:=digU_len (m / 10000) 12 (by omega)
 obtain ⟨Q,hQ⟩ : ∃ Q,digU (m / 10000) = Q:=⟨_,rfl⟩
 rw [hQ] at hq hql
 have HP4:=Lib.hid hp4
 have HQ:=Lib.hid hq
 have EA:=Lib.hid hA
 have EB:=Lib.hid hB
 have EC:=Lib.hid hC
 have ED:=Lib.hid hD
 have EQ:=Lib.hid hQ
 have y1 : Q.length + 1 ≤ 9223372036854775807:=by omega
 have y2 : 1 + Q.length ≤ 9223372036854775807:=by omega
 have y3 : 1 + Q.length + 1 ≤ 9223372036854775807:=by omega
 have y4 : Q.length ≤ 9223372036854775807:=by omega
 have y5 : Q.length + 1 + 1 ≤ 9223372036854775807:=by omega
 have y6 : Q.length + 1 + 2 ≤ 9223372036854775807:=by omega
 have y7 : Q.length + 1 + 3 ≤ 9223372036854775807:=by omega
 have y8 : Q.length + 1 + 4 ≤ 9223372036854775807:=by omega
 have y9 : 1 + Q.length + 1 + 1 ≤ 9223372036854775807:=by omega
 have y10 : 1 + Q.length + 1 + 2 ≤ 9223372036854775807:=by omega
 have y11 : 1 + Q.length + 1 + 3 ≤ 9223372036854775807:=by omega
 have y12 : 1 + Q.length + 1 + 4 ≤ 9223372036854775807:=by omega
 by_cases hn : n < 0
 · have HN:=Lib.hid (show realT n = 45 :: realU m by unfold realT;rw [if_pos hn,hm])
   have hnm : n = -(m : Int):=by omega
   subst hnm
   clear hm hp4 hq hA hB hC hD hQ hql TA
   go_enter Tryz.func228,Tryz.ntmps228
   go_wp2_with (go_at_call 205;refine (HW.out _).mono ?_;rintro e w0 ⟨rfl,rfl⟩)
   refine (HP4.out _).mono ?_
   rintro e w1 ⟨rfl,hb1⟩
   have hz1:=hb1.size
   go_wp2
   go_loop [4] (fun p => (p = .string ⟨#[A,B,C,D]⟩) ∨ (p = .string ⟨#[A,B,C]⟩ ∧ Hid (m % 10 = 0)) ∨ (p = .string ⟨#[A,B]⟩ ∧ Hid (m % 10 = 0 ∧ m / 10 % 10 = 0)) ∨ (p = .string ⟨#[A]⟩ ∧ Hid (m % 10 = 0 ∧ m / 10 % 10 = 0 ∧ m / 100 % 10 = 0))) (fun p => strSz p)
   case atStart => exact .inl rfl
   case round =>
     rcases hrel with rfl | ⟨rfl,Z⟩ | ⟨rfl,Z⟩ | ⟨rfl,Z⟩
     · cases td : (m % 10 == 0)
       · rw [td] at TD
         replace TD : ((((⟨#[A,B,C,D]⟩ : ByteArray)[3]'(by show 3 < 4;omega)).toNat : Int) == 48) = false:=TD
         have HT:=Lib.hid (show fracT m = [A,B,C,D] by
           rw [← EA.out,← EB.out,← EC.out,← ED.out];unfold fracT trim4;rw [if_pos (by simpa using td)])
         clear td
         go_wp2_with fail
         refine (HQ.out _).mono ?_
         rintro e w2 ⟨rfl,hb2⟩
         go_wp2
         go_ret
         refine ⟨ret_str ?_,by have hz2:=hb2.size;exact bel⟩
         rw [HN.out];unfold realU;rw [HT.out,EQ.out]
         simp
       · rw [td] at TD
         replace TD : ((((⟨#[A,B,C,D]⟩ : ByteArray)[3]'(by show 3 < 4;omega)).toNat : Int) == 48) = true:=TD
         have Z2:=Lib.hid (show m % 10 = 0 by simpa using td)
         clear td
         go_wp2
         go_round
         case rel => exact .inr (.inl ⟨rfl,Z2⟩)
         case measure => simp [strSz,ByteArray.size]
     · cases tc : (m / 10 % 10 == 0)
       · rw [tc] at TC
         replace TC : ((((⟨#[A,B,C]⟩ : ByteArray)[2]'(by show 2 < 3;omega)).toNat : Int) == 48) = false:=TC
         have HT:=Lib.hid (show fracT m = [A,B,C] by
           rw [← EA.out,← EB.out,← EC.out];unfold fracT trim4;rw [if_neg (by simp [Z.out]),if_pos (by simpa using tc)])
         clear tc
         go_wp2_with fail
         refine (HQ.out _).mono ?_
         rintro e w2 ⟨rfl,hb2⟩
         go_wp2
         go_ret
         refine ⟨ret_str ?_,by have hz2:=hb2.size;exact bel⟩
         rw [HN.out];unfold realU;rw [HT.out,EQ.out]
         simp
       · rw [tc] at TC
         replace TC : ((((⟨#[A,B,C]⟩ : ByteArray)[2]'(by show 2 < 3;omega)).toNat : Int) == 48) = true:=TC
         have Z2:=Lib.hid (show m % 10 = 0 ∧ m / 10 % 10 = 0 from ⟨Z.out,by simpa using tc⟩)
         clear tc
         go_wp2
         go_round
         case rel => exact .inr (.inr (.inl ⟨rfl,Z2⟩))
         case measure => simp [strSz,ByteArray.size]
     · cases tb : (m / 100 % 10 == 0)
       · rw [tb] at TB
         replace TB : ((((⟨#[A,B]⟩ : ByteArray)[1]'(by show 1 < 2;omega)).toNat : Int) == 48) = false:=TB
         have HT:=Lib.hid (show fracT m = [A,B] by
           rw [← EA.out,← EB.out];unfold fracT trim4;rw [if_neg (by simp [Z.out.1]),if_neg (by simp [Z.out.2]),if_pos (by simpa using tb)])
         clear tb
         go_wp2_with fail
         refine (HQ.out _).mono ?_
         rintro e w2 ⟨rfl,hb2⟩
         go_wp2
         go_ret
         refine ⟨ret_str ?_,by have hz2:=hb2.size;exact bel⟩
         rw [HN.out];unfold realU;rw [HT.out,EQ.out]
         simp
       · rw [tb] at TB
         replace TB : ((((⟨#[A,B]⟩ : ByteArray)[1]'(by show 1 < 2;omega)).toNat : Int) == 48) = true:=TB
         have Z2:=Lib.hid (show m % 10 = 0 ∧ m / 10 % 10 = 0 ∧ m / 100 % 10 = 0 from ⟨Z.out.1,Z.out.2,by simpa using tb⟩)
         clear tb
         go_wp2
         go_round
         case rel => exact .inr (.inr (.inr ⟨rfl,Z2⟩))
         case measure => simp [strSz,ByteArray.size]
     · have HT := Lib.hid (show fracT m = [A] by
         rw [← EA.out];unfold fracT trim4;rw [if_neg (by simp [Z.out.1]),if_neg (by simp [Z.out.2.1]),if_neg (by simp [Z.out.2.2])])
       go_wp2_with fail
       refine (HQ.out _).mono ?_
       rintro e w2 ⟨rfl,hb2⟩
       go_wp2
       go_ret
       refine ⟨ret_str ?_,by have hz2:=hb2.size;exact bel⟩
       rw [HN.out];unfold realU;rw [HT.out,EQ.out]
       simp
 · have HN:=Lib.hid (show realT n = realU m by unfold realT;rw [if_neg hn,hm])
   have hnm : n = (m : Int):=by omega
   subst hnm
   clear hm hp4 hq hA hB hC hD hQ hql TA
   go_enter Tryz.func228,Tryz.ntmps228
   go_wp2_with (go_at_call 205;refine (HW.out _).mono ?_;rintro e w0 ⟨rfl,rfl⟩)
   refine (HP4.out _).mono ?_
   rintro e w1 ⟨rfl,hb1⟩
   have hz1:=hb1.size
   go_wp2
   go_loop [4] (fun p => (p = .string ⟨#[A,B,C,D]⟩) ∨ (p = .string ⟨#[A,B,C]⟩ ∧ Hid (m % 10 = 0)) ∨ (p = .string ⟨#[A,B]⟩ ∧ Hid (m % 10 = 0 ∧ m / 10 % 10 = 0)) ∨ (p = .string ⟨#[A]⟩ ∧ Hid (m % 10 = 0 ∧ m / 10 % 10 = 0 ∧ m / 100 % 10 = 0))) (fun p => strSz p)
   case atStart => exact .inl rfl
   case round =>
     rcases hrel with rfl | ⟨rfl,Z⟩ | ⟨rfl,Z⟩ | ⟨rfl,Z⟩
     · cases td : (m % 10 == 0)
       · rw [td] at TD
         replace TD : ((((⟨#[A,B,C,D]⟩ : ByteArray)[3]'(by show 3 < 4;omega)).toNat : Int) == 48) = false:=TD
         have HT:=Lib.hid (show fracT m = [A,B,C,D] by
           rw [← EA.out,← EB.out,← EC.out,← ED.out];unfold fracT trim4;rw [if_pos (by simpa using td)])
         clear td
         go_wp2_with fail
         refine (HQ.out _).mono ?_
         rintro e w2 ⟨rfl,hb2⟩
         go_wp2
         go_ret
         refine ⟨ret_str ?_,by have hz2:=hb2.size;exact bel⟩
         rw [HN.out];unfold realU;rw [HT.out,EQ.out]
         simp
       · rw [td] at TD
         replace TD : ((((⟨#[A,B,C,D]⟩ : ByteArray)[3]'(by show 3 < 4;omega)).toNat : Int) == 48) = true:=TD
         have Z2:=Lib.hid (show m % 10 = 0 by simpa using td)
         clear td
         go_wp2
         go_round
         case rel => exact .inr (.inl ⟨rfl,Z2⟩)
         case measure => simp [strSz,ByteArray.size]
     · cases tc : (m / 10 % 10 == 0)
       · rw [tc] at TC
         replace TC : ((((⟨#[A,B,C]⟩ : ByteArray)[2]'(by show 2 < 3;omega)).toNat : Int) == 48) = false:=TC
         have HT:=Lib.hid (show fracT m = [A,B,C] by
           rw [← EA.out,← EB.out,← EC.out];unfold fracT trim4;rw [if_neg (by simp [Z.out]),if_pos (by simpa using tc)])
         clear tc
         go_wp2_with fail
         refine (HQ.out _).mono ?_
         rintro e w2 ⟨rfl,hb2⟩
         go_wp2
         go_ret
         refine ⟨ret_str ?_,by have hz2:=hb2.size;exact bel⟩
         rw [HN.out];unfold realU;rw [HT.out,EQ.out]
         simp
       · rw [tc] at TC
         replace TC : ((((⟨#[A,B,C]⟩ : ByteArray)[2]'(by show 2 < 3;omega)).toNat : Int) == 48) = true:=TC
         have Z2:=Lib.hid (show m % 10 = 0 ∧ m / 10 % 10 = 0 from ⟨Z.out,by simpa using tc⟩)
         clear tc
         go_wp2
         go_round
         case rel => exact .inr (.inr (.inl ⟨rfl,Z2⟩))
         case measure => simp [strSz,ByteArray.size]
     · cases tb : (m / 100 % 10 == 0)
       · rw [tb] at TB
         replace TB : ((((⟨#[A,B]⟩ : ByteArray)[1]'(by show 1 < 2;omega)).toNat : Int) == 48) = false:=TB
         have HT:=Lib.hid (show fracT m = [A,B] by
           rw [← EA.out,← EB.out];unfold fracT trim4;rw [if_neg (by simp [Z.out.1]),if_neg (by simp [Z.out.2]),if_pos (by simpa using tb)])
         clear tb
         go_wp2_with fail
         refine (HQ.out _).mono ?_
         rintro e w2 ⟨rfl,hb2⟩
         go_wp2
         go_ret
         refine ⟨ret_str ?_,by have hz2:=hb2.size;exact bel⟩
         rw [HN.out];unfold realU;rw [HT.out,EQ.out]
         simp
       · rw [tb] at TB
         replace TB : ((((⟨#[A,B]⟩ : ByteArray)[1]'(by show 1 < 2;omega)).toNat : Int) == 48) = true:=TB
         have Z2:=Lib.hid (show m % 10 = 0 ∧ m / 10 % 10 = 0 ∧ m / 100 % 10 = 0 from ⟨Z.out.1,Z.out.2,by simpa using tb⟩)
         clear tb
         go_wp2
         go_round
         case rel => exact .inr (.inr (.inr ⟨rfl,Z2⟩))
         case measure => simp [strSz,ByteArray.size]
     · have HT := Lib.hid (show fracT m = [A] by
         rw [← EA.out];unfold fracT trim4;rw [if_neg (by simp [Z.out.1]),if_neg (by simp [Z.out.2.1]),if_neg (by simp [Z.out.2.2])])
       go_wp2_with fail
       refine (HQ.out _).mono ?_
       rintro e w2 ⟨rfl,hb2⟩
       go_wp2
       go_ret
       refine ⟨ret_str ?_,by have hz2:=hb2.size;exact bel⟩
       rw [HN.out];unfold realU;rw [HT.out,EQ.out]
       simp
abbrev hexLit : ByteArray:=⟨#[48,49,50,51,52,53,54,55,56,57,65,66,67,68,69,70]⟩
theorem hexLit_at (n : Nat) (h : n < 16) : hexLit[n]'(by show n < 16;omega) = hexD n:=by
 have h2 : n = 0 ∨ n = 1 ∨ n = 2 ∨ n = 3 ∨ n = 4 ∨ n = 5 ∨ n = 6 ∨ n = 7 ∨ n = 8 ∨ n = 9 ∨ n = 10 ∨ n = 11 ∨ n = 12 ∨ n = 13 ∨ n = 14 ∨ n = 15:=by omega
 rcases h2 with rfl | rfl | rfl | rfl | rfl | rfl | rfl | rfl | rfl | rfl | rfl | rfl | rfl | rfl | rfl | rfl <;> rfl
theorem rhexc (c : UInt8) (w : World) : Calls Tryz.prog 201 #[.string ⟨#[c]⟩] w fun e w' => e = .returned (.string ⟨([hexD (c.toNat / 16),hexD (c.toNat % 16)] : L).toArray⟩) ∧ Below w.heap.size w w':=by
 obtain ⟨X,hX⟩ : ∃ X : L,[hexD (c.toNat / 16),hexD (c.toNat % 16)] = X:=⟨_,rfl⟩
 rw [hX]
 have HX:=Lib.hid hX
 clear hX
 have hc:=UInt8.toNat_lt c
 have v1 : c.toNat / 16 < 16:=by omega
 have v2 : c.toNat % 16 < 16:=by omega
 have v3 : (c.toNat : Int) / 16 < 16:=by omega
 have v4 : (c.toNat : Int) % 16 < 16:=by omega
 have v5 : (0 : Int) ≤ (c.toNat : Int) / 16:=by omega
 have v6 : (0 : Int) ≤ (c.toNat : Int) % 16:=by omega
 have v7 : ((c.toNat : Int) / 16).toNat = c.toNat / 16:=by omega
 have v8 : ((c.toNat : Int) % 16).toNat = c.toNat % 16:=by omega
 have q0 : ((⟨#[c]⟩ : ByteArray)[0]'(by show 0 < 1;omega)) = c:=rfl
 have q1 : IntKind.u8.wrap ((c.toNat : Int) / 16) = (c.toNat : Int) / 16:=IntWalk.u8_in _ ⟨by omega,by omega⟩
 have q2 : IntKind.u8.wrap ((c.toNat : Int).tmod 16) = (c.toNat : Int) % 16:=by
   rw [Int.tmod_eq_emod_of_nonneg (by omega)];exact IntWalk.u8_in _ ⟨by omega,by omega⟩
 have q4 : (c.toNat : Int).tmod 16 = (c.toNat : Int) % 16:=Int.tmod_eq_emod_of_nonneg (by omega)
 have q3 : IntKind.u8.wrap ((c.toNat : Int) % 16) = (c.toNat : Int) % 16:=IntWalk.u8_in _ ⟨by omega,by omega⟩
 have E1:=Lib.hid (hexLit_at (c.toNat / 16) v1)
 have E2:=Lib.hid (hexLit_at (c.toNat % 16) v2)
 go_enter Tryz.func201,Tryz.ntmps201
 go_wp2
 go_loopw [4,5] (fun v i wr => Below w.heap.size w wr ∧ ((i = .int .i64 0 ∧ v = .slice none 0 0) ∨ (i = .int .i64 1 ∧ ownB wr w.heap.size v X))) (fun _ i _ => 1 - (intOf i).toNat)
 case atStart => exact ⟨Below.refl _ _,.inl ⟨rfl,rfl⟩⟩
 case round =>
   obtain ⟨hbr,⟨rfl,rfl⟩ | ⟨rfl,hown⟩⟩:=hrel
   · have hown:=ownB_nil wr w.heap.size
     have hBr:=hbr.size
     have hown2 : wr.drew.ownsRow w.heap.size 5 1 (.slice none 0 0) 0 []:=hown
     obtain ⟨i0,hi0,y0,y1,y2⟩:=info_parts Tryz.infoU8
     go_wp2_with fail
     go_region_law (refine step_append_lies _ (by rfl) _ _ _ (by rfl) w.heap.size 5 i0 (.int .u8 0) 1 1 Tryz.underlying98 hi0 y0 y1 y2 rfl (by omega) (.slice none 0 0) 0 [] (by rfl) (hown2.alloc _) ⟨wr.heap.size,0,none⟩ 2 2 [.int .u8 ((hexLit[c.toNat / 16]'v1).toNat : Int),.int .u8 ((hexLit[c.toNat % 16]'v2).toNat : Int)] (by rfl) (by rfl) (World.news_of_block (cs:=#[.int .u8 ((hexLit[c.toNat / 16]'v1).toNat : Int),.int .u8 ((hexLit[c.toNat % 16]'v2).toNat : Int)]) (t:=5) (fr:=(0,0)) (heap_alloc_new wr.drew _)) (by intro u hu;simp at hu;rcases hu with rfl | rfl <;> rfl) (by omega) (by unfold maxLen;omega) (by omega) (by simp;omega) (wr.heap.size + 1) (by simp) ?_;intro g2 cap w5 hown5 hgrow hat hlt5)
     all_goals
       have hX5 : ownB w5 w.heap.size (.slice (some ⟨g2,0,none⟩) 2 cap) X:=by
         have h:=hown5
         rw [E1.out,E2.out] at h
         rw [← HX.out];exact h
       have hb5 : Below w.heap.size w w5:=((hbr.drew).alloc hBr _).grown hgrow (by simp;omega) (fun k hk => by simp [Value.ownBlock] at hk)
       go_wp2
       go_roundw
     all_goals first
       | (case rel => exact ⟨hb5,.inr ⟨by go_num,hX5⟩⟩)
       | (case measure => simp [intOf])
   · obtain ⟨p,cv,rfl⟩:=ownB_slice hown
     have hcv:=convB hown
     go_wp2
     go_ret
     exact ⟨rfl,hbr⟩
theorem val_str {a b : ByteArray} (h : a.data.toList = b.data.toList) : Value.string a = .string b:=by
 have : a = b:=ByteArray.ext (Array.toList_inj.1 h)
 rw [this]
end Go.Proofs.YtfgdhcemidlnfaaGreatDoor
