/- Parts of the proof: Object Object2 Kids Array TdB Ch ChP. -/
import Derived.Test.YtinafodpgjbedaaGreatDoorPdd
import Derived.Test.YtinafodpgjbedaaGreatDoorPda
import Derived.Deep.AppendLies
set_option linter.all false
set_option maxRecDepth 100000
set_option maxHeartbeats 8000000
namespace Go.Proofs.YtinafodpgjbedaaGreatDoor
open Go.RowKit Fo
def RdPost (r : Nat) (s : ByteArray) (d : Nat) (w : World) (R : Res (Ob × L)) (e : Ending) (w' : World) : Prop :=
 match R with
 | .good (o,rest) => ∃ (cs : List Value) (z : Nat),e = .returned (.agg cs.toArray) ∧ z ≤ s.size ∧ rest = s.data.toList.drop z ∧ ObjAt (fun b => w.heap.size ≤ b) d w' cs o ∧ RdAt w' r s z ∧ Bes r w w'
 | .bad k => e = .panicked [{ v:=.iface 245 (.int .i64 k),recovered:=false }] ∧ Bes r w w'
def ObjC (s : ByteArray) (m : Int) (d : Nat) : Prop:=∀ (r a p : Nat) (t : Tok) (w : World),a ≤ s.size → MaxW w m → RdAt w r s a → p + t.len = a → t.kind ≠ 0 → t.kind ≤ 6 → 0 ≤ t.kind →
 Calls Tryz.prog 151 #[.pointer (some ⟨r,0,none⟩),.agg #[.int .i64 t.kind,.int .i64 p,.int .i64 a,.int .i64 t.n,.string ⟨t.s.toArray⟩],.int .i64 (24 - (d : Int))] w (RdPost r s (d + 1) w (objS d t (s.data.toList.drop a)))
def arrR (R : Res (List Ob × L)) : Res (Ob × L) :=
 match R with | .bad e => .bad e | .good (ks,r) => .good (.mk 6 0 0 [] [] ks,r)
def dictR (R : Res (List (L × Ob) × L)) : Res (Ob × L) :=
 match R with | .bad e => .bad e | .good (ps,r) => .good (mkDict ps,r)
def ArrC (s : ByteArray) (m : Int) (d : Nat) : Prop:=∀ (r a : Nat) (w : World),a ≤ s.size → MaxW w m → RdAt w r s a →
 Calls Tryz.prog 193 #[.pointer (some ⟨r,0,none⟩),.int .i64 (24 - (d : Int))] w (RdPost r s (d + 2) w (arrR (arrS (objS d) d ((s.data.toList.drop a).length + 1) (s.data.toList.drop a) [])))
def DictC (s : ByteArray) (m : Int) (d : Nat) : Prop:=∀ (r a : Nat) (w : World),a ≤ s.size → MaxW w m → RdAt w r s a →
 Calls Tryz.prog 194 #[.pointer (some ⟨r,0,none⟩),.int .i64 (24 - (d : Int))] w (RdPost r s (d + 2) w (dictR (dictS (objS d) ((s.data.toList.drop a).length + 1) (s.data.toList.drop a) [])))
theorem object_no (r : Nat) (t : Tok) (p q d : Int) (h : beginsS t = false) (w : World) :
   Calls Tryz.prog 151 #[.pointer (some ⟨r,0,none⟩),.agg #[.int .i64 t.kind,.int .i64 p,.int .i64 q,.int .i64 t.n,.string ⟨t.s.toArray⟩],.int .i64 d] w fun e w' => e = .panicked [{ v:=.iface 245 (.int .i64 3),recovered:=false }] ∧ Below w.heap.size w w':=by
 have H:=Lh h
 clear h
 go_enter Tryz.func151,Tryz.ntmps151
 go_wp2_with fail
 refine (begins_tok t _ _ false H.out _).mono ?_
 rintro e w1 ⟨rfl,hb⟩
 go_wp2
 exact ⟨rfl,rfl,bel⟩
theorem object_deep (r : Nat) (t : Tok) (p q : Int) (h : beginsS t = true) (w : World) :
   Calls Tryz.prog 151 #[.pointer (some ⟨r,0,none⟩),.agg #[.int .i64 t.kind,.int .i64 p,.int .i64 q,.int .i64 t.n,.string ⟨t.s.toArray⟩],.int .i64 24] w fun e w' => e = .panicked [{ v:=.iface 245 (.int .i64 7),recovered:=false }] ∧ Below w.heap.size w w':=by
 have H:=Lh h
 clear h
 go_enter Tryz.func151,Tryz.ntmps151
 go_wp2_with fail
 refine (begins_tok t _ _ true H.out _).mono ?_
 rintro e w1 ⟨rfl,hb⟩
 go_wp2
 exact ⟨rfl,rfl,bel⟩
theorem object_real (r : Nat) (t : Tok) (p q d : Int) (hd0 : d < 24) (h : beginsS t = true) (w : World) (hk : t.kind = 2) :
   Calls Tryz.prog 151 #[.pointer (some ⟨r,0,none⟩),.agg #[.int .i64 t.kind,.int .i64 p,.int .i64 q,.int .i64 t.n,.string ⟨t.s.toArray⟩],.int .i64 d] w fun e w' => e = .returned (obV 3 t.n 0 []) ∧ Below w.heap.size w w':=by
 have t1 : (t.kind == 1) = false:=by simp [hk]
 have t2 : (t.kind == 2) = true:=by simp [hk]
 clear hk
 have H:=Lh h
 clear h
 have hd : decide (24 ≤ d) = false:=by simp;omega
 go_enter Tryz.func151,Tryz.ntmps151
 go_wp2_with fail
 refine (begins_tok t _ _ true H.out _).mono ?_
 rintro e w1 ⟨rfl,hb⟩
 obtain ⟨hc,hf⟩:=bcell hb
 have hz : w.heap.size + 1 < w1.heap.size:=by have:=hb.size;simp at this;omega
 go_wp2_with fail
 refine (vreal_in _ _).mono ?_
 rintro e w2 ⟨rfl,hb2⟩
 obtain ⟨hc2,hf2⟩:=bcell hb2
 have hz2 : w.heap.size + 1 < w2.heap.size:=by have:=hb2.size;omega
 unfold obV
 go_wp2
 refine bodyPost_ret (v:=obV 3 t.n 0 []) (by simp [results,Tryz.results151,go_sem,hc2,hf2,hc,hf,hz,obV]) rfl ⟨rfl,bel⟩
theorem object_str (r : Nat) (t : Tok) (p q d : Int) (hd0 : d < 24) (h : beginsS t = true) (w : World) (hk : t.kind = 3) :
   Calls Tryz.prog 151 #[.pointer (some ⟨r,0,none⟩),.agg #[.int .i64 t.kind,.int .i64 p,.int .i64 q,.int .i64 t.n,.string ⟨t.s.toArray⟩],.int .i64 d] w fun e w' => e = .returned (obV 4 0 0 t.s) ∧ Below w.heap.size w w':=by
 have t1 : (t.kind == 1) = false:=by simp [hk]
 have t2 : (t.kind == 2) = false:=by simp [hk]
 have t3 : (t.kind == 3) = true:=by simp [hk]
 clear hk
 have H:=Lh h
 clear h
 have hd : decide (24 ≤ d) = false:=by simp;omega
 go_enter Tryz.func151,Tryz.ntmps151
 go_wp2_with fail
 refine (begins_tok t _ _ true H.out _).mono ?_
 rintro e w1 ⟨rfl,hb⟩
 obtain ⟨hc,hf⟩:=bcell hb
 have hz : w.heap.size + 1 < w1.heap.size:=by have:=hb.size;simp at this;omega
 go_wp2_with fail
 refine (vstr_in _ _).mono ?_
 rintro e w2 ⟨rfl,hb2⟩
 obtain ⟨hc2,hf2⟩:=bcell hb2
 have hz2 : w.heap.size + 1 < w2.heap.size:=by have:=hb2.size;omega
 unfold obV
 go_wp2
 refine bodyPost_ret (v:=obV 4 0 0 t.s) (by simp [results,Tryz.results151,go_sem,hc2,hf2,hc,hf,hz,obV]) rfl ⟨rfl,bel⟩
theorem object_name (r : Nat) (t : Tok) (p q d : Int) (hd0 : d < 24) (h : beginsS t = true) (w : World) (hk : t.kind = 4) :
   Calls Tryz.prog 151 #[.pointer (some ⟨r,0,none⟩),.agg #[.int .i64 t.kind,.int .i64 p,.int .i64 q,.int .i64 t.n,.string ⟨t.s.toArray⟩],.int .i64 d] w fun e w' => e = .returned (obV 5 0 0 t.s) ∧ Below w.heap.size w w':=by
 have t1 : (t.kind == 1) = false:=by simp [hk]
 have t2 : (t.kind == 2) = false:=by simp [hk]
 have t3 : (t.kind == 3) = false:=by simp [hk]
 have t4 : (t.kind == 4) = true:=by simp [hk]
 clear hk
 have H:=Lh h
 clear h
 have hd : decide (24 ≤ d) = false:=by simp;omega
 go_enter Tryz.func151,Tryz.ntmps151
 go_wp2_with fail
 refine (begins_tok t _ _ true H.out _).mono ?_
 rintro e w1 ⟨rfl,hb⟩
 obtain ⟨hc,hf⟩:=bcell hb
 have hz : w.heap.size + 1 < w1.heap.size:=by have:=hb.size;simp at this;omega
 go_wp2_with fail
 refine (vname_in _ _).mono ?_
 rintro e w2 ⟨rfl,hb2⟩
 obtain ⟨hc2,hf2⟩:=bcell hb2
 have hz2 : w.heap.size + 1 < w2.heap.size:=by have:=hb2.size;omega
 unfold obV
 go_wp2
 refine bodyPost_ret (v:=obV 5 0 0 t.s) (by simp [results,Tryz.results151,go_sem,hc2,hf2,hc,hf,hz,obV]) rfl ⟨rfl,bel⟩
theorem ref_none (r : Nat) (s : ByteArray) (a q : Nat) (t : Tok) (p : Int) (hq : q ≤ s.size) (hs : s.size ≤ 140737488355327) (m : Int) (w : World) (hm : MaxW w m) (hr : RdAt w r s a)
   (h : refS t (s.data.toList.drop q) = none) :
   Calls Tryz.prog 186 #[.pointer (some ⟨r,0,none⟩),.agg #[.int .i64 t.kind,.int .i64 p,.int .i64 q,.int .i64 t.n,.string ⟨t.s.toArray⟩]] w fun e w' => e = .returned (.tuple #[.agg #[.int .i64 0,.int .i64 0,.int .i64 0,.string ⟨#[]⟩,.slice none 0 0,.slice none 0 0],.bool false]) ∧ Below w.heap.size w w':=by
 unfold refS at h
 by_cases h0 : t.n < 1 ∨ 8191 < t.n
 · exact ref_num r t p q h0 w
 · rw [if_neg h0] at h
   have hn : 1 ≤ t.n ∧ t.n ≤ 8191:=by omega
   cases h1 : (nextT (s.data.toList.drop q)).2 with
   | bad k => exact ref_lex1 r s a q t p k hq hs m w hm hr hn h1
   | good g =>
     rw [h1] at h
     dsimp only at h
     by_cases h2 : g.kind ≠ 1 ∨ g.n < 0 ∨ 65535 < g.n
     · exact ref_gen r s a q t p hq hs m w hm hr hn g h1 h2
     · rw [if_neg h2] at h
       have hg : g.kind = 1 ∧ 0 ≤ g.n ∧ g.n ≤ 65535:=by omega
       cases h3 : (nextT ((s.data.toList.drop q).drop ((nextT (s.data.toList.drop q)).1 + g.len))).2 with
       | bad k => exact ref_lex2 r s a q t p hq hs m w hm hr hn g h1 hg k h3
       | good u =>
         rw [h3] at h
         dsimp only at h
         by_cases h4 : u.kind = 5 ∧ u.s = [82]
         · rw [if_pos h4] at h;cases h
         · exact ref_word r s a q t p hq hs m w hm hr hn g h1 hg u h3 h4
theorem ref_some (r : Nat) (s : ByteArray) (a q : Nat) (t : Tok) (p : Int) (hq : q ≤ s.size) (hs : s.size ≤ 140737488355327) (m : Int) (w : World) (hm : MaxW w m) (hr : RdAt w r s a)
   (gn : Int) (rest : L) (h : refS t (s.data.toList.drop q) = some (gn,rest)) :
   Calls Tryz.prog 186 #[.pointer (some ⟨r,0,none⟩),.agg #[.int .i64 t.kind,.int .i64 p,.int .i64 q,.int .i64 t.n,.string ⟨t.s.toArray⟩]] w fun e w' => ∃ z : Nat,z ≤ s.size ∧ s.data.toList.drop z = rest ∧
     e = .returned (.tuple #[.agg #[.int .i64 8,.int .i64 t.n,.int .i64 gn,.string ⟨#[]⟩,.slice none 0 0,.slice none 0 0],.bool true]) ∧ RdAt w' r s z ∧ Bes r w w':=by
 unfold refS at h
 by_cases h0 : t.n < 1 ∨ 8191 < t.n
 · rw [if_pos h0] at h;cases h
 · rw [if_neg h0] at h
   have hn : 1 ≤ t.n ∧ t.n ≤ 8191:=by omega
   cases h1 : (nextT (s.data.toList.drop q)).2 with
   | bad k => rw [h1] at h;cases h
   | good g =>
     rw [h1] at h
     dsimp only at h
     by_cases h2 : g.kind ≠ 1 ∨ g.n < 0 ∨ 65535 < g.n
     · rw [if_pos h2] at h;cases h
     · rw [if_neg h2] at h
       have hg : g.kind = 1 ∧ 0 ≤ g.n ∧ g.n ≤ 65535:=by omega
       cases h3 : (nextT ((s.data.toList.drop q).drop ((nextT (s.data.toList.drop q)).1 + g.len))).2 with
       | bad k => rw [h3] at h;cases h
       | good u =>
         rw [h3] at h
         dsimp only at h
         by_cases h4 : u.kind = 5 ∧ u.s = [82]
         · rw [if_pos h4] at h
           have:=ref_good r s a q t p hq hs m w hm hr hn g h1 hg u h3 h4
           simp only [Option.some.injEq,Prod.mk.injEq] at h
           rw [← h.1,← h.2];exact this
         · rw [if_neg h4] at h;cases h
theorem object_int (s : ByteArray) (a : Nat) (q : Nat) (r : Nat) (t : Tok) (p d : Int) (hd0 : d < 24) (h : beginsS t = true) (w : World) (hq : q ≤ s.size) (hs : s.size ≤ 140737488355327) (m : Int) (hm : MaxW w m) (hr : RdAt w r s a)
   (hk : t.kind = 1) (hn : refS t (s.data.toList.drop q) = none) :
   Calls Tryz.prog 151 #[.pointer (some ⟨r,0,none⟩),.agg #[.int .i64 t.kind,.int .i64 p,.int .i64 q,.int .i64 t.n,.string ⟨t.s.toArray⟩],.int .i64 d] w fun e w' => e = .returned (obV 2 t.n 0 []) ∧ Below w.heap.size w w':=by
 have t1 : (t.kind == 1) = true:=by simp [hk]
 have HR:=Lh (fun W hW hR => ref_none r s a q t p hq hs m W hW hR hn)
 clear hk hn
 have H:=Lh h
 clear h
 have hd : decide (24 ≤ d) = false:=by simp;omega
 go_enter Tryz.func151,Tryz.ntmps151
 go_wp2_with fail
 refine (begins_tok t _ _ true H.out _).mono ?_
 rintro e w1 ⟨rfl,hb⟩
 obtain ⟨hc,hf⟩:=bcell hb
 have hz : w.heap.size + 1 < w1.heap.size:=by have:=hb.size;simp at this;omega
 go_wp2_with fail
 refine (HR.out _ (hm.below bel) (hr.below bel)).mono ?_
 rintro e w2 ⟨rfl,hb2⟩
 obtain ⟨hc2,hf2⟩:=bcell hb2
 have hz2 : w.heap.size + 1 < w2.heap.size:=by have:=hb2.size;omega
 have hz2' : w.heap.size < w2.heap.size:=by omega
 have hz1' : w.heap.size < w1.heap.size:=by omega
 go_wp2_with fail
 refine (pvint_in _ _).mono ?_
 rintro e w3 ⟨rfl,hb3⟩
 obtain ⟨hc3,hf3⟩:=bcell hb3
 have hz3 : w.heap.size + 1 < w2.heap.size + 1:=by omega
 have hz4 : w.heap.size + 2 ≤ w3.heap.size:=by have:=hb3.size;simp at this;omega
 unfold obV
 go_wp2
 refine bodyPost_ret (v:=obV 2 t.n 0 []) (by simp [results,Tryz.results151,go_sem,hc3,hf3,hc2,hf2,hc,hf,hz,hz2,hz3,obV]) rfl ⟨rfl,bel⟩
theorem object_ref (s : ByteArray) (a : Nat) (q : Nat) (r : Nat) (t : Tok) (p d : Int) (hd0 : d < 24) (h : beginsS t = true) (w : World) (hq : q ≤ s.size) (hs : s.size ≤ 140737488355327) (m : Int) (hm : MaxW w m) (hr : RdAt w r s a)
   (hk : t.kind = 1) (gn : Int) (rest : L) (hn : refS t (s.data.toList.drop q) = some (gn,rest)) :
   Calls Tryz.prog 151 #[.pointer (some ⟨r,0,none⟩),.agg #[.int .i64 t.kind,.int .i64 p,.int .i64 q,.int .i64 t.n,.string ⟨t.s.toArray⟩],.int .i64 d] w fun e w' => ∃ z : Nat,z ≤ s.size ∧ s.data.toList.drop z = rest ∧ e = .returned (obV 8 t.n gn []) ∧ RdAt w' r s z ∧ Bes r w w':=by
 have t1 : (t.kind == 1) = true:=by simp [hk]
 have HR:=Lh (fun W hW hR => ref_some r s a q t p hq hs m W hW hR gn rest hn)
 have hlt:=hr.lt
 clear hk hn
 have H:=Lh h
 clear h
 have hd : decide (24 ≤ d) = false:=by simp;omega
 go_enter Tryz.func151,Tryz.ntmps151
 go_wp2_with fail
 refine (begins_tok t _ _ true H.out _).mono ?_
 rintro e w1 ⟨rfl,hb⟩
 obtain ⟨hc,hf⟩:=bcell hb
 have hz : w.heap.size + 1 < w1.heap.size:=by have:=hb.size;simp at this;omega
 go_wp2_with fail
 refine (HR.out _ (hm.below bel) (hr.below bel)).mono ?_
 rintro e w2 ⟨z,hz1,hz2,rfl,hR2,hs2⟩
 have hr0 : ∀ o,w2.cell? ⟨w.heap.size + 1,o,none⟩ = w1.cell? ⟨w.heap.size + 1,o,none⟩:=fun o => World.cell?_of_block (hs2.block _ (by show w.heap.size + 1 < _;omega) (by show w.heap.size + 1 ≠ r;omega))
 have hr1 : ∀ o,w2.frozen? ⟨w.heap.size + 1,o,none⟩ = w1.frozen? ⟨w.heap.size + 1,o,none⟩:=fun o => World.frozen?_of_block (hs2.block _ (by show w.heap.size + 1 < _;omega) (by show w.heap.size + 1 ≠ r;omega))
 have hz3 : w.heap.size + 1 < w2.heap.size:=by have:=hs2.size;omega
 have HZ:=Lh hz2
 have hbw1 : Below w.heap.size w w1:=bel
 have hs3 : Bes r w w2:=(Bes.of_below hbw1).trans hs2
 clear hz2 hs2
 go_wp2
 refine bodyPost_ret (v:=obV 8 t.n gn []) (by simp [results,Tryz.results151,go_sem,hr0,hr1,hc,hf,hz,hz3,obV]) rfl ⟨z,hz1,HZ.out,rfl,hR2.belowB (B:=r + 1) belr (by omega),?_⟩
 (repeat' (first | (with_reducible exact hs3) | (with_reducible refine Bes.setCell_new ?_ ?_ _) | (with_reducible refine Bes.alloc ?_ _) | (show _ ≤ _;simp;done) | (show _ ≤ _;simp;omega) | omega))
theorem vbool_as (b : Bool) (x : Int) (h : (if b then (1 : Int) else 0) = x) (w : World) : Calls Tryz.prog 192 #[.bool b] w fun e w' => e = .returned (obV 1 x 0 []) ∧ Below w.heap.size w w':=h ▸ vbool_in b w
theorem object_null (r : Nat) (t : Tok) (p q d : Int) (hd0 : d < 24) (h : beginsS t = true) (w : World) (hk : t.kind = 5) (hn : t.s = wNull) :
   Calls Tryz.prog 151 #[.pointer (some ⟨r,0,none⟩),.agg #[.int .i64 t.kind,.int .i64 p,.int .i64 q,.int .i64 t.n,.string ⟨t.s.toArray⟩],.int .i64 d] w fun e w' => e = .returned (obV 0 0 0 []) ∧ Below w.heap.size w w':=by
 have t1 : (t.kind == 1) = false:=by simp [hk]
 have t2 : (t.kind == 2) = false:=by simp [hk]
 have t3 : (t.kind == 3) = false:=by simp [hk]
 have t4 : (t.kind == 4) = false:=by simp [hk]
 have t5 : (t.kind == 5) = true:=by simp [hk]
 have hn' : (t.s == [110,117,108,108]) = true:=by rw [hn];decide
 clear hk hn
 have H:=Lh h
 clear h
 have hd : decide (24 ≤ d) = false:=by simp;omega
 go_enter Tryz.func151,Tryz.ntmps151
 go_wp2_with fail
 refine (begins_tok t _ _ true H.out _).mono ?_
 rintro e w1 ⟨rfl,hb⟩
 obtain ⟨hc,hf⟩:=bcell hb
 have hz : w.heap.size + 1 < w1.heap.size:=by have:=hb.size;simp at this;omega
 go_wp2_with fail
 refine (vnull_in _).mono ?_
 rintro e w2 ⟨rfl,hb2⟩
 obtain ⟨hc2,hf2⟩:=bcell hb2
 have hz2 : w.heap.size + 1 < w2.heap.size:=by have:=hb2.size;omega
 unfold obV
 go_wp2
 refine bodyPost_ret (v:=obV 0 0 0 []) (by simp [results,Tryz.results151,go_sem,hc2,hf2,hc,hf,hz,obV]) rfl ⟨rfl,bel⟩
theorem object_bool (r : Nat) (t : Tok) (p q d : Int) (hd0 : d < 24) (h : beginsS t = true) (w : World) (hk : t.kind = 5) (hn : ¬ t.s = wNull) :
   Calls Tryz.prog 151 #[.pointer (some ⟨r,0,none⟩),.agg #[.int .i64 t.kind,.int .i64 p,.int .i64 q,.int .i64 t.n,.string ⟨t.s.toArray⟩],.int .i64 d] w fun e w' => e = .returned (obV 1 (if t.s == wTrue then 1 else 0) 0 []) ∧ Below w.heap.size w w':=by
 have t1 : (t.kind == 1) = false:=by simp [hk]
 have t2 : (t.kind == 2) = false:=by simp [hk]
 have t3 : (t.kind == 3) = false:=by simp [hk]
 have t4 : (t.kind == 4) = false:=by simp [hk]
 have t5 : (t.kind == 5) = true:=by simp [hk]
 have hn' : (t.s == [110,117,108,108]) = false:=by simpa [wNull] using hn
 clear hk hn
 obtain ⟨x,hx⟩ : ∃ x : Int,(if (t.s == wTrue) then (1 : Int) else 0) = x:=⟨_,rfl⟩
 rw [hx]
 have HB:=Lh hx
 clear hx
 have H:=Lh h
 clear h
 have hd : decide (24 ≤ d) = false:=by simp;omega
 go_enter Tryz.func151,Tryz.ntmps151
 go_wp2_with fail
 refine (begins_tok t _ _ true H.out _).mono ?_
 rintro e w1 ⟨rfl,hb⟩
 obtain ⟨hc,hf⟩:=bcell hb
 have hz : w.heap.size + 1 < w1.heap.size:=by have:=hb.size;simp at this;omega
 go_wp2_with fail
 refine (vbool_as (t.s == [116,114,117,101]) x HB.out _).mono ?_
 rintro e w2 ⟨rfl,hb2⟩
 obtain ⟨hc2,hf2⟩:=bcell hb2
 have hz2 : w.heap.size + 1 < w2.heap.size:=by have:=hb2.size;omega
 unfold obV
 go_wp2
 refine bodyPost_ret (v:=obV 1 x 0 []) (by simp [results,Tryz.results151,go_sem,hc2,hf2,hc,hf,hz,obV]) rfl ⟨rfl,bel⟩
open Go.RowKit Fo
theorem objAt_out {B n d : Nat} {w2 w3 : World} {cs : List Value} {o : Ob} (h : ObjAt (fun b => n ≤ b) d w2 cs o) (hB : B ≤ n) (hk : ∀ b,n ≤ b → w3.heap[b]? = w2.heap[b]?) : ObjAt (fun b => B ≤ b) d w3 cs o :=
 (ObjAt.kept (fun b hb => hk b hb) d h).weaken (fun b hb _ => Nat.le_trans hB hb) d
theorem object_arr (s : ByteArray) (a : Nat) (q : Nat) (r : Nat) (t : Tok) (p d : Int) (hd0 : d < 24) (hd1 : -1000 < d) (h : beginsS t = true) (w : World) (hs : s.size ≤ 140737488355327) (m : Int) (hm : MaxW w m) (hr : RdAt w r s a)
   (hk : t.kind = 6) (hn : t.s = [91]) (d2 : Nat) (R : Res (Ob × L))
   (HC : ∀ W,MaxW W m → RdAt W r s a → Calls Tryz.prog 193 #[.pointer (some ⟨r,0,none⟩),.int .i64 (d + 1)] W (RdPost r s d2 W R)) :
   Calls Tryz.prog 151 #[.pointer (some ⟨r,0,none⟩),.agg #[.int .i64 t.kind,.int .i64 p,.int .i64 q,.int .i64 t.n,.string ⟨t.s.toArray⟩],.int .i64 d] w (RdPost r s d2 w R):=by
 have hn' : (t.s == [91]) = true:=by rw [hn];decide
 clear hn
 have t1 : (t.kind == 1) = false:=by simp [hk]
 have t2 : (t.kind == 2) = false:=by simp [hk]
 have t3 : (t.kind == 3) = false:=by simp [hk]
 have t4 : (t.kind == 4) = false:=by simp [hk]
 have t5 : (t.kind == 5) = false:=by simp [hk]
 have hlt:=hr.lt
 have HCH:=Lh HC
 clear hk HC
 have H:=Lh h
 clear h
 have hd : decide (24 ≤ d) = false:=by simp;omega
 go_enter Tryz.func151,Tryz.ntmps151
 go_wp2_with fail
 refine (begins_tok t _ _ true H.out _).mono ?_
 rintro e w1 ⟨rfl,hb⟩
 obtain ⟨hc,hf⟩:=bcell hb
 have hz : w.heap.size + 1 < w1.heap.size:=by have:=hb.size;simp at this;omega
 go_wp2_with fail
 refine (HCH.out _ (hm.below bel) (hr.below bel)).mono ?_
 intro e w2 hpost
 have hbw1 : Below w.heap.size w w1:=bel
 cases R with
 | bad k =>
   obtain ⟨rfl,hs2⟩:=hpost
   have hs3 : Bes r w w2:=(Bes.of_below hbw1).trans hs2
   exact ⟨rfl,rfl,hs3⟩
 | good R =>
   obtain ⟨o,rest⟩:=R
   obtain ⟨cs,z,rfl,hz1,hz2,hO,hR2,hs2⟩:=hpost
   obtain ⟨p1,n1,c1,p2,n2,c2,hcs⟩:=hO.shape
   rw [hcs] at hO
   rw [hcs]
   have hr0 : ∀ o,w2.cell? ⟨w.heap.size + 1,o,none⟩ = w1.cell? ⟨w.heap.size + 1,o,none⟩:=fun o => World.cell?_of_block (hs2.block _ (by show w.heap.size + 1 < _;omega) (by show w.heap.size + 1 ≠ r;omega))
   have hr1 : ∀ o,w2.frozen? ⟨w.heap.size + 1,o,none⟩ = w1.frozen? ⟨w.heap.size + 1,o,none⟩:=fun o => World.frozen?_of_block (hs2.block _ (by show w.heap.size + 1 < _;omega) (by show w.heap.size + 1 ≠ r;omega))
   have hz3 : w.heap.size + 1 < w2.heap.size:=by have:=hs2.size;omega
   have hs3 : Bes r w w2:=(Bes.of_below hbw1).trans hs2
   have HZ:=Lh (And.intro hz2 hO)
   have hkv : ∀ (w3 : World),(∀ b,w1.heap.size ≤ b → w3.heap[b]? = w2.heap[b]?) → ObjAt (fun b => w.heap.size ≤ b) d2 w3 (objCells o.kind o.n o.g o.s (.slice p1 n1 c1) (.slice p2 n2 c2)) o:=fun w3 h3 => objAt_out hO (by omega) h3
   have HKV:=Lh hkv
   clear hz2 hs2 hcs hO hkv
   unfold objCells
   go_wp2
   refine bodyPost_ret (v:=.agg #[.int .i64 o.kind,.int .i64 o.n,.int .i64 o.g,.string ⟨o.s.toArray⟩,.slice p1 n1 c1,.slice p2 n2 c2]) (by simp [results,Tryz.results151,go_sem,hr0,hr1,hc,hf,hz,hz3]) rfl ?_
   refine ⟨_,z,rfl,hz1,HZ.out.1,HKV.out _ ?_,hR2.belowB (B:=r + 1) belr (by omega),?_⟩
   · intro b hb
     rw [Below.heap_setCell _ _ _ _ (by show b ≠ w.heap.size + 1;omega),Below.heap_setCell _ _ _ _ (by show b ≠ w.heap.size + 1;omega),Below.heap_setCell _ _ _ _ (by show b ≠ w.heap.size + 1;omega),Below.heap_setCell _ _ _ _ (by show b ≠ w.heap.size + 1;omega),Below.heap_setCell _ _ _ _ (by show b ≠ w.heap.size + 1;omega),Below.heap_setCell _ _ _ _ (by show b ≠ w.heap.size + 1;omega)]
   · (repeat' (first | (with_reducible exact hs3) | (with_reducible refine Bes.setCell_new ?_ ?_ _) | (with_reducible refine Bes.alloc ?_ _) | (show _ ≤ _;simp;done) | (show _ ≤ _;simp;omega) | omega))
theorem object_dict (s : ByteArray) (a : Nat) (q : Nat) (r : Nat) (t : Tok) (p d : Int) (hd0 : d < 24) (hd1 : -1000 < d) (h : beginsS t = true) (w : World) (hs : s.size ≤ 140737488355327) (m : Int) (hm : MaxW w m) (hr : RdAt w r s a)
   (hk : t.kind = 6) (hn : ¬ t.s = [91]) (d2 : Nat) (R : Res (Ob × L))
   (HC : ∀ W,MaxW W m → RdAt W r s a → Calls Tryz.prog 194 #[.pointer (some ⟨r,0,none⟩),.int .i64 (d + 1)] W (RdPost r s d2 W R)) :
   Calls Tryz.prog 151 #[.pointer (some ⟨r,0,none⟩),.agg #[.int .i64 t.kind,.int .i64 p,.int .i64 q,.int .i64 t.n,.string ⟨t.s.toArray⟩],.int .i64 d] w (RdPost r s d2 w R):=by
 have hn' : (t.s == [91]) = false:=by simpa using hn
 clear hn
 have t1 : (t.kind == 1) = false:=by simp [hk]
 have t2 : (t.kind == 2) = false:=by simp [hk]
 have t3 : (t.kind == 3) = false:=by simp [hk]
 have t4 : (t.kind == 4) = false:=by simp [hk]
 have t5 : (t.kind == 5) = false:=by simp [hk]
 have hlt:=hr.lt
 have HCH:=Lh HC
 clear hk HC
 have H:=Lh h
 clear h
 have hd : decide (24 ≤ d) = false:=by simp;omega
 go_enter Tryz.func151,Tryz.ntmps151
 go_wp2_with fail
 refine (begins_tok t _ _ true H.out _).mono ?_
 rintro e w1 ⟨rfl,hb⟩
 obtain ⟨hc,hf⟩:=bcell hb
 have hz : w.heap.size + 1 < w1.heap.size:=by have:=hb.size;simp at this;omega
 go_wp2_with fail
 refine (HCH.out _ (hm.below bel) (hr.below bel)).mono ?_
 intro e w2 hpost
 have hbw1 : Below w.heap.size w w1:=bel
 cases R with
 | bad k =>
   obtain ⟨rfl,hs2⟩:=hpost
   have hs3 : Bes r w w2:=(Bes.of_below hbw1).trans hs2
   exact ⟨rfl,rfl,hs3⟩
 | good R =>
   obtain ⟨o,rest⟩:=R
   obtain ⟨cs,z,rfl,hz1,hz2,hO,hR2,hs2⟩:=hpost
   obtain ⟨p1,n1,c1,p2,n2,c2,hcs⟩:=hO.shape
   rw [hcs] at hO
   rw [hcs]
   have hr0 : ∀ o,w2.cell? ⟨w.heap.size + 1,o,none⟩ = w1.cell? ⟨w.heap.size + 1,o,none⟩:=fun o => World.cell?_of_block (hs2.block _ (by show w.heap.size + 1 < _;omega) (by show w.heap.size + 1 ≠ r;omega))
   have hr1 : ∀ o,w2.frozen? ⟨w.heap.size + 1,o,none⟩ = w1.frozen? ⟨w.heap.size + 1,o,none⟩:=fun o => World.frozen?_of_block (hs2.block _ (by show w.heap.size + 1 < _;omega) (by show w.heap.size + 1 ≠ r;omega))
   have hz3 : w.heap.size + 1 < w2.heap.size:=by have:=hs2.size;omega
   have hs3 : Bes r w w2:=(Bes.of_below hbw1).trans hs2
   have HZ:=Lh (And.intro hz2 hO)
   have hkv : ∀ (w3 : World),(∀ b,w1.heap.size ≤ b → w3.heap[b]? = w2.heap[b]?) → ObjAt (fun b => w.heap.size ≤ b) d2 w3 (objCells o.kind o.n o.g o.s (.slice p1 n1 c1) (.slice p2 n2 c2)) o:=fun w3 h3 => objAt_out hO (by omega) h3
   have HKV:=Lh hkv
   clear hz2 hs2 hcs hO hkv
   unfold objCells
   go_wp2
   refine bodyPost_ret (v:=.agg #[.int .i64 o.kind,.int .i64 o.n,.int .i64 o.g,.string ⟨o.s.toArray⟩,.slice p1 n1 c1,.slice p2 n2 c2]) (by simp [results,Tryz.results151,go_sem,hr0,hr1,hc,hf,hz,hz3]) rfl ?_
   refine ⟨_,z,rfl,hz1,HZ.out.1,HKV.out _ ?_,hR2.belowB (B:=r + 1) belr (by omega),?_⟩
   · intro b hb
     rw [Below.heap_setCell _ _ _ _ (by show b ≠ w.heap.size + 1;omega),Below.heap_setCell _ _ _ _ (by show b ≠ w.heap.size + 1;omega),Below.heap_setCell _ _ _ _ (by show b ≠ w.heap.size + 1;omega),Below.heap_setCell _ _ _ _ (by show b ≠ w.heap.size + 1;omega),Below.heap_setCell _ _ _ _ (by show b ≠ w.heap.size + 1;omega),Below.heap_setCell _ _ _ _ (by show b ≠ w.heap.size + 1;omega)]
   · (repeat' (first | (with_reducible exact hs3) | (with_reducible refine Bes.setCell_new ?_ ?_ _) | (with_reducible refine Bes.alloc ?_ _) | (show _ ≤ _;simp;done) | (show _ ≤ _;simp;omega) | omega))
open Go.RowKit Fo
theorem objAt_arr {S S' : Nat → Prop} {w : World} {B d : Nat} {v : Value} {css : List (List Value)} {acc : List Ob} (h : w.ownsRow B 36 6 v acc.length css.flatten) (hk : KidsAt S d w css acc)
   (hS : ∀ b,S b → S' b) (hB : ∀ b,B ≤ b → S' b) : ObjAt S' (d + 1) w (objCells 6 0 0 [] (.slice none 0 0) v) (.mk 6 0 0 [] [] acc) :=
 ⟨_,_,rfl,.inl ⟨rfl,_,_,rfl⟩,kids_at h hk hS hB⟩
open Go.RowKit Fo
theorem five_of {w : World} {b : Nat} {t : TypeId} {v0 v1 v2 v3 v4 : Value} (h : w.heap[b]? = some (.cells #[v0, v1, v2, v3, v4] t (0, 0))) :
   w.cell? ⟨b,0,none⟩ = some v0 ∧ w.cell? ⟨b,1,none⟩ = some v1 ∧ w.cell? ⟨b,2,none⟩ = some v2 ∧ w.cell? ⟨b,3,none⟩ = some v3 ∧ w.cell? ⟨b,4,none⟩ = some v4 ∧ ∀ o,w.frozen? ⟨b,o,none⟩ = false:=by
 simp [World.cell?,World.frozen?,h]
theorem MaxW.ne {w : World} {m : Int} {r : Nat} {s : ByteArray} {a : Nat} (h : MaxW w m) (hr : RdAt w r s a) : r ≠ 1:=by
 rintro rfl
 unfold MaxW at h;rw [hr.cell0] at h;cases h
theorem MaxW.bes {w w' : World} {m : Int} {r : Nat} (h : MaxW w m) (hb : Bes r w w') (hr : r ≠ 1) : MaxW w' m:=by
 unfold MaxW at *;rw [World.cell?_of_block (hb.block 1 (MaxW.lt h) (by omega))];exact h
def rdPos (w : World) (r : Nat) : Nat:=match w.cell? ⟨r,1,none⟩ with | some (.int _ n) => n.toNat | _ => 0
theorem RdAt.pos {w : World} {r : Nat} {s : ByteArray} {a : Nat} (h : RdAt w r s a) : rdPos w r = a:=by
 unfold rdPos;rw [h.cell1];simp
theorem arrS_bad {f : Tok → L → Res (Ob × L)} {d n : Nat} {l : L} {acc : List Ob} {k : Int} (h : nextS l = .bad k) : arrS f d (n + 1) l acc = .bad k:=by rw [arrS,h]
theorem arrS_end {f : Tok → L → Res (Ob × L)} {d n : Nat} {l r : L} {acc : List Ob} {t : Tok} (h : nextS l = .good (t,r)) (hw : (t.kind == 6 && t.s == [93]) = true) : arrS f d (n + 1) l acc = .good (acc,r):=by
 rw [arrS,h];simp only [Bool.and_eq_true,beq_iff_eq] at hw;simp [hw]
theorem arrS_many {f : Tok → L → Res (Ob × L)} {d n : Nat} {l r : L} {acc : List Ob} {t : Tok} (h : nextS l = .good (t,r)) (hw : (t.kind == 6 && t.s == [93]) = false) (hb : beginsS t = true) (hd : 0 < d) (hn : 8191 ≤ acc.length) : arrS f d (n + 1) l acc = .bad 6:=by
 rw [arrS,h]
 have : ¬ (t.kind = 6 ∧ t.s = [93]):=by rintro ⟨h1,h2⟩;simp [h1,h2] at hw
 dsimp only
 rw [if_neg this,if_pos ⟨hb,hd,hn⟩]
theorem arrS_fbad {f : Tok → L → Res (Ob × L)} {d n : Nat} {l r : L} {acc : List Ob} {t : Tok} {k : Int} (h : nextS l = .good (t,r)) (hw : (t.kind == 6 && t.s == [93]) = false) (hb : ¬ (beginsS t = true ∧ 0 < d ∧ 8191 ≤ acc.length)) (hf : f t r = .bad k) : arrS f d (n + 1) l acc = .bad k:=by
 rw [arrS,h]
 have : ¬ (t.kind = 6 ∧ t.s = [93]):=by rintro ⟨h1,h2⟩;simp [h1,h2] at hw
 dsimp only
 rw [if_neg this,if_neg hb,hf]
theorem arrS_more {f : Tok → L → Res (Ob × L)} {d n : Nat} {l r r2 : L} {acc : List Ob} {t : Tok} {o : Ob} (h : nextS l = .good (t,r)) (hw : (t.kind == 6 && t.s == [93]) = false) (hb : ¬ (beginsS t = true ∧ 0 < d ∧ 8191 ≤ acc.length)) (hf : f t r = .good (o,r2)) : arrS f d (n + 1) l acc = arrS f d n r2 (acc ++ [o]):=by
 rw [arrS,h]
 have : ¬ (t.kind = 6 ∧ t.s = [93]):=by rintro ⟨h1,h2⟩;simp [h1,h2] at hw
 dsimp only
 rw [if_neg this,if_neg hb,hf]
theorem objS_good {d : Nat} {t : Tok} {l : L} {o : Ob} {r : L} (h : objS d t l = .good (o,r)) : beginsS t = true ∧ 0 < d:=by
 cases d with
 | zero => rw [objS] at h;split at h <;> cases h
 | succ d => rw [objS] at h; split at h
             · exact ⟨by assumption,by omega⟩
             · cases h
theorem ownRow_bes {w w' : World} {B sz n r : Nat} {e : TypeId} {v : Value} {xs : List Value} (h : w.ownsRow B e sz v n xs) (hs : Bes r w w') (hr : r < B) : w'.ownsRow B e sz v n xs :=
 World.ownsRow.kept h (row:=some r) ⟨hs.os,hs.tape,hs.output,hs.size,fun k h1 h2 => hs.block k h1 (by intro h;exact h2 (by rw [h]))⟩ (.inr (by intro h';have:=own_base h _ h';omega))
def ElemPost (s : ByteArray) (d fuel r q : Nat) (acc : List Ob) (T : Res (List Ob × L)) (w : World) (e : Ending) (w' : World) : Prop :=
 (∃ k,e = .panicked [{ v:=.iface 245 (.int .i64 k),recovered:=false }] ∧ Hid (T = .bad k) ∧ Bes r w w') ∨
 (∃ (o : Ob) (p1 : Option Addr) (n1 c1 : Nat) (p2 : Option Addr) (n2 c2 z : Nat),e = .returned (.agg #[.int .i64 o.kind,.int .i64 o.n,.int .i64 o.g,.string ⟨o.s.toArray⟩,.slice p1 n1 c1,.slice p2 n2 c2]) ∧ z ≤ s.size ∧ q ≤ z ∧ acc.length < 8191 ∧
   Hid (arrS (objS d) d fuel (s.data.toList.drop z) (acc ++ [o]) = T) ∧ ObjAt (fun b => w.heap.size ≤ b) (d + 1) w' (objCells o.kind o.n o.g o.s (.slice p1 n1 c1) (.slice p2 n2 c2)) o ∧ RdAt w' r s z ∧ Bes r w w')
theorem arr_elem (s : ByteArray) (m : Int) (d fuel r a p q : Nat) (acc : List Ob) (T : Res (List Ob × L)) (HC : ObjC s m d) (t : Tok) (hn : nextS (s.data.toList.drop a) = .good (t, s.data.toList.drop q)) (hw : (t.kind == 6 && t.s == [93]) = false)
   (hb : ¬ (beginsS t = true ∧ 0 < d ∧ 8191 ≤ acc.length)) (hT : Hid (arrS (objS d) d (fuel + 1) (s.data.toList.drop a) acc = T)) (hq : q ≤ s.size) (hpq : p + t.len = q) (hk : t.kind ≠ 0) (h6 : t.kind ≤ 6) (h0 : 0 ≤ t.kind)
   (w : World) (hm : MaxW w m) (hr : RdAt w r s q) :
   Calls Tryz.prog 151 #[.pointer (some ⟨r,0,none⟩),.agg #[.int .i64 t.kind,.int .i64 p,.int .i64 q,.int .i64 t.n,.string ⟨t.s.toArray⟩],.int .i64 (24 - (d : Int))] w (ElemPost s d fuel r q acc T w):=by
 refine (HC r q p t w hq hm hr hpq hk h6 h0).mono ?_
 intro e w' h
 unfold RdPost at h
 cases hf : objS d t (s.data.toList.drop q) with
 | bad k =>
   rw [hf] at h
   exact .inl ⟨k,h.1,Lh (hT.out.symm.trans (arrS_fbad hn hw hb hf)),h.2⟩
 | good R =>
   obtain ⟨o,rest⟩:=R
   rw [hf] at h
   obtain ⟨cs,z,rfl,hz1,rfl,hO,hR,hB⟩:=h
   obtain ⟨p1,n1,c1,p2,n2,c2,rfl⟩:=hO.shape
   have hg:=objS_good hf
   have hsh:=objS_shorter _ _ _ _ _ hf
   simp only [List.length_drop,Array.length_toList,show s.data.size = s.size from rfl] at hsh
   refine .inr ⟨o,p1,n1,c1,p2,n2,c2,z,rfl,hz1,by omega,?_,Lh ((arrS_more hn hw hb hf).symm.trans hT.out),hO,hR,hB⟩
   apply Classical.byContradiction
   intro h9;exact hb ⟨hg.1,hg.2,by omega⟩
theorem arr_rd {s : ByteArray} {B n r z : Nat} {w3 w4 w5 : World} {v u : Value} {xs : List Value} {sz : Nat} {e : TypeId} {o : Go.Obj} {x : Nat} (hr : r < B) (hlt : r < w3.heap.size) (hown3 : w3.ownsRow B e sz v n xs) (hs4 : Bes r w3 w4)
   (hgrow : (w4.alloc o).grownBy w5 v.ownBlock) (hR4 : RdAt w4 r s z) (hx : x ≠ r) : RdAt (w5.setCell ⟨x,5,none⟩ u) r s z:=by
 have h4:=hs4.size
 have hlo:=own_base hown3
 show (w5.setCell _ _).heap[r]? = _
 rw [Below.heap_setCell _ _ _ _ (by show r ≠ x;omega),hgrow.block r (by simp;omega) (by intro h;have:=hlo r h.symm;omega),Below.heap_alloc _ _ _ (by omega)];exact hR4
theorem arr_round (s : ByteArray) (m : Int) (d fuel r z : Nat) (w w3 w4 w5 : World) (gg cap : Nat) (vp : Option Addr) (vc : Nat) (acc : List Ob) (css : List (List Value)) (o : Ob) (p1 : Option Addr) (n1 c1 : Nat) (p2 : Option Addr) (n2 c2 : Nat) (T : Res (List Ob × L))
   (hlt : r < w.heap.size) (B0 : w3.heap[w.heap.size]? = some (.cells #[.int .i64 0,.int .i64 0,.int .i64 0,.string ⟨#[]⟩,.slice none 0 0,.slice none 0 0] 36 (0,0)))
   (B1 : w3.heap[w.heap.size + 1]? = some (.cells #[.int .i64 6,.int .i64 0,.int .i64 0,.string ⟨#[]⟩,.slice none 0 0,.slice vp acc.length vc] 36 (0,0)))
   (hown3 : w3.ownsRow (w.heap.size + 2) 36 6 (.slice vp acc.length vc) acc.length css.flatten)
   (hkids : KidsAt (fun b => w.heap.size + 2 ≤ b ∧ (Value.slice vp acc.length vc).ownBlock ≠ some b) (d + 1) w3 css acc)
   (hO : ObjAt (fun b => w3.heap.size ≤ b) (d + 1) w4 (objCells o.kind o.n o.g o.s (.slice p1 n1 c1) (.slice p2 n2 c2)) o)
   (hs4 : Bes r w3 w4) (hbd : Bes r w w3) (hR4 : RdAt w4 r s z) (hm3 : MaxW w3 m) {q : Nat} (hr3 : RdAt w3 r s q)
   (hown5 : w5.ownsRow (w.heap.size + 2) 36 6 (.slice (some ⟨gg,0,none⟩) (acc.length + 1) cap) (acc.length + 1) (css.flatten ++ objCells o.kind o.n o.g o.s (.slice p1 n1 c1) (.slice p2 n2 c2)))
   (hgrow : (w4.alloc (.cells #[.int .i64 o.kind,.int .i64 o.n,.int .i64 o.g,.string ⟨o.s.toArray⟩,.slice p1 n1 c1,.slice p2 n2 c2] 36)).grownBy w5 (Value.slice vp acc.length vc).ownBlock)
   (hat : (Value.slice vp acc.length vc).ownBlock = some gg ∨ gg = w4.heap.size + 1) (hz1 : z ≤ s.size)
   (HX : Hid (arrS (objS d) d fuel (s.data.toList.drop z) (acc ++ [o]) = T)) (hfu : s.size - z < fuel) :
   (fun wr => ∃ (a fuel : Nat) (acc : List Ob) (css : List (List Value)) (v : Value),a ≤ s.size ∧ RdAt wr r s a ∧ wr.heap[w.heap.size]? = some (.cells #[.int .i64 0,.int .i64 0,.int .i64 0,.string ⟨#[]⟩,.slice none 0 0,.slice none 0 0] 36 (0,0)) ∧ wr.heap[w.heap.size + 1]? = some (.cells #[.int .i64 6,.int .i64 0,.int .i64 0,.string ⟨#[]⟩,.slice none 0 0,v] 36 (0,0)) ∧ wr.ownsRow (w.heap.size + 2) 36 6 v acc.length css.flatten ∧ KidsAt (fun b => w.heap.size + 2 ≤ b ∧ v.ownBlock ≠ some b) (d + 1) wr css acc ∧ Bes r w wr ∧ MaxW wr m ∧ s.size - a < fuel ∧ Hid (arrS (objS d) d fuel (s.data.toList.drop a) acc = T)) (w5.setCell ⟨w.heap.size + 1,5,none⟩ (.slice (some ⟨gg,0,none⟩) (acc.length + 1) cap)):=by
 obtain ⟨wf,hwf⟩ : ∃ wf,w5.setCell ⟨w.heap.size + 1,5,none⟩ (.slice (some ⟨gg,0,none⟩) (acc.length + 1) cap) = wf:=⟨_,rfl⟩
 have hlt3 : w.heap.size + 1 < w3.heap.size:=lt_of_block B1
 have hlt4:=hs4.size
 have hlo:=own_base hown3
 have hup : ∀ k,(Value.slice vp acc.length vc).ownBlock = some k → k < w3.heap.size:=fun k h => (World.ownsRow.lt hown3 k h).2
 have hg2 : w.heap.size + 2 ≤ gg:=own_base hown5 gg rfl
 have hk : ∀ k,k < w4.heap.size → k ≠ w.heap.size + 1 → (Value.slice vp acc.length vc).ownBlock ≠ some k → wf.heap[k]? = w4.heap[k]?:=fun k h1 h2 h3 => by
   rw [← hwf]
   exact (Below.heap_setCell _ _ _ _ h2).trans ((hgrow.block k (by simp;omega) (Ne.symm h3)).trans (Below.heap_alloc _ _ _ h1))
 have nown : ∀ k,k < w.heap.size + 2 → (Value.slice vp acc.length vc).ownBlock ≠ some k:=fun k h h' => by have:=hlo k h';omega
 have hgb : w5.grownBy wf (some (w.heap.size + 1)):=by
   rw [← hwf]
   exact ⟨rfl,rfl,rfl,by simp [World.setCell],fun k h1 h2 => Below.heap_setCell _ _ _ _ (by intro h;exact h2 (by rw [h]))⟩
 have hsz : w4.heap.size + 1 ≤ wf.heap.size:=by
   have:=hgrow.size;simp at this
   exact Nat.le_trans this hgb.size
 have hggn : ∀ b,b < w4.heap.size → (Value.slice vp acc.length vc).ownBlock ≠ some b → some gg ≠ some b:=by
   intro b h1 h2 h3
   simp only [Option.some.injEq] at h3;subst h3
   rcases hat with h | h
   · exact h2 h
   · omega
 rw [hwf]
 refine ⟨z,fuel,acc ++ [o],css ++ [objCells o.kind o.n o.g o.s (.slice p1 n1 c1) (.slice p2 n2 c2)],.slice (some ⟨gg,0,none⟩) (acc.length + 1) cap,hz1,?_,?_,?_,?_,?_,?_,?_,hfu,HX⟩
 · show wf.heap[r]? = _
   rw [hk r (by omega) (by omega) (nown r (by omega))];exact hR4
 · rw [hk _ (by omega) (by omega) (nown _ (by omega)),hs4.block _ (by omega) (by omega)];exact B0
 · rw [← hwf]
   refine set_fifth (v5:=.slice vp acc.length vc) ?_
   rw [hgrow.block _ (by simp;omega) (Ne.symm (nown _ (by omega))),Below.heap_alloc _ _ _ (by omega),hs4.block _ (by omega) (by omega)];exact B1
 · have:=World.ownsRow.kept hown5 hgb (.inr (by simp [Value.ownBlock];omega))
   simpa using this
 · refine KidsAt.push ?_ rfl ?_
   · exact hkids.grow (fun b h1 h2 => ⟨⟨h1.1,hggn b (by omega) h1.2⟩,(hk b (by omega) (by have:=h1.1;omega) h1.2).trans (hs4.block b h2 (by have:=h1.1;omega))⟩)
   · refine hO.grow (fun b h1 h2 => ?_)
     have nb : (Value.slice vp acc.length vc).ownBlock ≠ some b:=fun h => by have:=hup b h;omega
     exact ⟨⟨by omega,hggn b h2 nb⟩,hk b h2 (by omega) nb⟩
 · have h4:=hbd.trans hs4
   refine ⟨?_,?_,?_,by have:=h4.size;omega,fun k h1 h2 => (hk k (by omega) (by omega) (nown k (by omega))).trans (h4.block k h1 h2)⟩
   · exact hgb.os.trans (hgrow.os.trans h4.os)
   · exact hgb.tape.trans (hgrow.tape.trans h4.tape)
   · exact hgb.output.trans (hgrow.output.trans h4.output)
 · have h4:=hm3.bes hs4 (hm3.ne hr3)
   have:=MaxW.lt hm3
   unfold MaxW at *
   rw [World.cell?_of_block (a:=⟨1,0,none⟩) (hk 1 (by omega) (by omega) (nown 1 (by omega)))];exact h4
theorem array_in (s : ByteArray) (m : Int) (d : Nat) (hs : s.size ≤ 140737488355327) (hd : d ≤ 24) (HO : ObjC s m d) : ArrC s m d:=by
 intro r a0 w ha0 hm0 hr0
 have hlt:=hr0.lt
 obtain ⟨T,hT⟩ : ∃ T,arrS (objS d) d ((s.data.toList.drop a0).length + 1) (s.data.toList.drop a0) [] = T:=⟨_,rfl⟩
 rw [hT]
 have HT:=Lh hT;clear hT
 have HC:=Lh HO;clear HO
 go_enter Tryz.func193,Tryz.ntmps193
 go_wp2_with fail
 go_loopw [6] (fun _ wr => ∃ (a fuel : Nat) (acc : List Ob) (css : List (List Value)) (v : Value),a ≤ s.size ∧ RdAt wr r s a ∧ wr.heap[w.heap.size]? = some (.cells #[.int .i64 0,.int .i64 0,.int .i64 0,.string ⟨#[]⟩,.slice none 0 0,.slice none 0 0] 36 (0,0)) ∧ wr.heap[w.heap.size + 1]? = some (.cells #[.int .i64 6,.int .i64 0,.int .i64 0,.string ⟨#[]⟩,.slice none 0 0,v] 36 (0,0)) ∧ wr.ownsRow (w.heap.size + 2) 36 6 v acc.length css.flatten ∧ KidsAt (fun b => w.heap.size + 2 ≤ b ∧ v.ownBlock ≠ some b) (d + 1) wr css acc ∧ Bes r w wr ∧ MaxW wr m ∧ s.size - a < fuel ∧ Hid (arrS (objS d) d fuel (s.data.toList.drop a) acc = T)) (fun _ wr => s.size - rdPos wr r)
 case atStart =>
   refine ⟨a0,_,[],[],.slice none 0 0,ha0,hr0.below bel,(Below.heap_alloc _ _ _ (by simp)).trans (heap_new_at _ _ _ rfl),heap_new_at _ _ _ (by simp),⟨by simp,.inl ⟨rfl,rfl⟩⟩,KidsAt.nil,(by repeat' (first | (with_reducible exact Bes.refl _ _) | (with_reducible refine Bes.drew ?_) | (with_reducible refine Bes.drewN ?_ _) | (with_reducible refine Bes.alloc ?_ _) | (with_reducible refine Bes.setCell ?_ _ _) | (with_reducible refine Bes.setCell_new ?_ ?_ _) | (with_reducible refine Bes.belowB ?_ hb5 ?_) | (with_reducible refine Bes.belowB ?_ hb4 ?_) | (with_reducible refine Bes.belowB ?_ hb3 ?_) | (with_reducible refine Bes.belowB ?_ hb2 ?_) | (with_reducible refine Bes.belowB ?_ hb1 ?_) | (with_reducible refine Bes.belowB ?_ hbr ?_) | (with_reducible refine Bes.belowB ?_ hb ?_) | (with_reducible refine Bes.trans ?_ hs5) | (with_reducible refine Bes.trans ?_ hs4) | (with_reducible refine Bes.trans ?_ hs3) | (with_reducible refine Bes.trans ?_ hs2) | (with_reducible refine Bes.trans ?_ hs1) | (show _ ≤ _;simp;done) | (show _ ≤ _;simp;omega) | omega)),hm0.below bel,?_,HT⟩
   simp
 case round =>
   obtain ⟨a,fuel,acc,css,v,ha,hr,hB0,hB1,hown,hkids,hbes,hm,hfu,H⟩:=hrel
   clear HT
   obtain ⟨vp,vc,rfl⟩:=own_slice hown
   obtain ⟨fuel,rfl⟩ : ∃ f,fuel = f + 1:=⟨fuel - 1,by omega⟩
   cases hn : nextS (s.data.toList.drop a) with
   | bad k =>
     have HX:=Lh (H.out.symm.trans (arrS_bad hn))
     have HN:=Lh (rnext_bad r s a k ha hs m wr hm hr hn)
     clear hn H
     go_wp2_with fail
     refine HN.out.mono ?_
     rintro e w1 ⟨rfl,hs1⟩
     go_wp2
     refine ⟨rfl,?_⟩
     rw [HX.out]
     exact ⟨rfl,(by repeat' (first | (with_reducible exact Bes.refl _ _) | (with_reducible refine Bes.drew ?_) | (with_reducible refine Bes.drewN ?_ _) | (with_reducible refine Bes.alloc ?_ _) | (with_reducible refine Bes.setCell ?_ _ _) | (with_reducible refine Bes.setCell_new ?_ ?_ _) | (with_reducible refine Bes.belowB ?_ hb5 ?_) | (with_reducible refine Bes.belowB ?_ hb4 ?_) | (with_reducible refine Bes.belowB ?_ hb3 ?_) | (with_reducible refine Bes.belowB ?_ hb2 ?_) | (with_reducible refine Bes.belowB ?_ hb1 ?_) | (with_reducible refine Bes.belowB ?_ hbr ?_) | (with_reducible refine Bes.belowB ?_ hb ?_) | (with_reducible refine Bes.trans ?_ hs5) | (with_reducible refine Bes.trans ?_ hs4) | (with_reducible refine Bes.trans ?_ hs3) | (with_reducible refine Bes.trans ?_ hs2) | (with_reducible refine Bes.trans ?_ hs1) | (show _ ≤ _;simp;done) | (show _ ≤ _;simp;omega) | omega))⟩
   | good tr =>
     obtain ⟨t,rest⟩:=tr
     obtain ⟨h1,hk,hrest⟩:=nextS_good hn
     obtain ⟨g1,g2,g3,_⟩:=nextT_good h1
     obtain ⟨g5,g6⟩:=nextS_shorter hn
     obtain ⟨p,hp⟩ : ∃ p,a + (nextT (s.data.toList.drop a)).1 = p:=⟨_,rfl⟩
     have HN:=Lh (rnext_good r s a p t ha hs m wr hm hr h1 hk hp)
     simp only [List.length_drop,Array.length_toList,show s.data.size = s.size from rfl] at g1
     have hq : p + t.len ≤ s.size:=by omega
     rw [List.drop_drop,← Nat.add_assoc,hp] at hrest
     subst hrest
     have hqa : a < p + t.len:=by simp only [List.length_drop,Array.length_toList,show s.data.size = s.size from rfl] at g5;omega
     obtain ⟨q,hq'⟩ : ∃ q,p + t.len = q:=⟨_,rfl⟩
     rw [hq'] at hq hqa hn
     unfold tkV at HN
     rw [hq'] at HN
     clear g1 g5 h1 hp
     have ltr:=hr.lt
     have ltB : w.heap.size + 1 < wr.heap.size:=lt_of_block hB1
     have neB0 : w.heap.size ≠ r:=by omega
     have neB1 : w.heap.size + 1 ≠ r:=by omega
     cases hw : (t.kind == 6 && t.s == [93]) with
     | true =>
       have HX:=Lh (H.out.symm.trans (arrS_end hn hw))
       have HW:=Lh hw
       clear hn H hw
       go_wp2_with fail
       refine HN.out.mono ?_
       rintro e w1 ⟨rfl,hr1,hs1⟩
       go_wp2_with fail
       refine (word_in' _ _ _ _ _ _ _ true HW.out _).mono ?_
       rintro e w2 ⟨rfl,hb2⟩
       obtain ⟨hc2,hf2⟩:=bcell hb2
       have hlt1:=hs1.size
       have k0 : w2.heap[w.heap.size]? = wr.heap[w.heap.size]?:=(hb2.block _ (by simp;omega)).trans ((Below.heap_alloc _ _ _ (by omega)).trans (hs1.block _ (by omega) neB0))
       have k1 : w2.heap[w.heap.size + 1]? = wr.heap[w.heap.size + 1]?:=(hb2.block _ (by simp;omega)).trans ((Below.heap_alloc _ _ _ (by omega)).trans (hs1.block _ (by omega) neB1))
       obtain ⟨a0,a1,a2,a3,a4,a5,af⟩:=six_of (k0.trans hB0)
       obtain ⟨b0,b1,b2,b3,b4,b5,bf⟩:=six_of (k1.trans hB1)
       go_wp2
       refine bodyPost_ret (v:=.agg #[.int .i64 6,.int .i64 0,.int .i64 0,.string ⟨#[]⟩,.slice none 0 0,.slice vp acc.length vc]) (by simp [results,Tryz.results193,go_sem,a0,a1,a2,a3,a4,a5,af]) rfl ?_
       rw [HX.out]
       have hbw : Bes r wr w2:=hs1.trans ((by repeat' (first | (with_reducible exact Bes.refl _ _) | (with_reducible refine Bes.drew ?_) | (with_reducible refine Bes.drewN ?_ _) | (with_reducible refine Bes.alloc ?_ _) | (with_reducible refine Bes.setCell ?_ _ _) | (with_reducible refine Bes.setCell_new ?_ ?_ _) | (with_reducible refine Bes.belowB ?_ hb5 ?_) | (with_reducible refine Bes.belowB ?_ hb4 ?_) | (with_reducible refine Bes.belowB ?_ hb3 ?_) | (with_reducible refine Bes.belowB ?_ hb2 ?_) | (with_reducible refine Bes.belowB ?_ hb1 ?_) | (with_reducible refine Bes.belowB ?_ hbr ?_) | (with_reducible refine Bes.belowB ?_ hb ?_) | (with_reducible refine Bes.trans ?_ hs5) | (with_reducible refine Bes.trans ?_ hs4) | (with_reducible refine Bes.trans ?_ hs3) | (with_reducible refine Bes.trans ?_ hs2) | (with_reducible refine Bes.trans ?_ hs1) | (show _ ≤ _;simp;done) | (show _ ≤ _;simp;omega) | omega)))
       have hO:=objAt_arr (S':=fun b => w.heap.size + 2 ≤ b) hown hkids (fun b hb => hb.1) (fun b hb => hb)
       have hO2:=hO.grow (S':=fun b => w.heap.size + 2 ≤ b) (w':=w2) (fun b h1 h2 => ⟨h1,hbw.block b h2 (by omega)⟩)
       refine ⟨_,q,rfl,hq,rfl,objAt_out hO2 (by omega) ?_,(hr1.below (w':=w2) bel).belowB (B:=r + 1) belr (by omega),?_⟩
       · intro b hb
         rw [Below.heap_setCell _ _ _ _ (by show b ≠ w.heap.size;omega),Below.heap_setCell _ _ _ _ (by show b ≠ w.heap.size;omega),Below.heap_setCell _ _ _ _ (by show b ≠ w.heap.size;omega),Below.heap_setCell _ _ _ _ (by show b ≠ w.heap.size;omega),Below.heap_setCell _ _ _ _ (by show b ≠ w.heap.size;omega),Below.heap_setCell _ _ _ _ (by show b ≠ w.heap.size;omega)]
       · have hs3 : Bes r w w2:=hbes.trans hbw
         (repeat' (first | (with_reducible exact hs3) | (with_reducible refine Bes.setCell_new ?_ ?_ _) | (show _ ≤ _;simp;done) | (show _ ≤ _;simp;omega) | omega))
     | false =>
       have HW:=Lh hw
       have HE:=fun (hb : ¬ (beginsS t = true ∧ 0 < d ∧ 8191 ≤ acc.length)) W (hW : MaxW W m) (hR : RdAt W r s q) => arr_elem s m d fuel r a p q acc T HC.out t hn hw hb H hq hq' hk g3 g2 W hW hR
       cases hbg : beginsS t with
       | false =>
         have HB:=Lh (HE (by simp [hbg]))
         have HBG:=Lh hbg
         clear hn H hw hbg HE
         go_wp2_with fail
         refine HN.out.mono ?_
         rintro e w1 ⟨rfl,hr1,hs1⟩
         go_wp2_with fail
         refine (word_in' _ _ _ _ _ _ _ false HW.out _).mono ?_
         rintro e w2 ⟨rfl,hb2⟩
         obtain ⟨hc2,hf2⟩:=bcell hb2
         have hlt1:=hs1.size
         have hlt2 : w1.heap.size + 1 ≤ w2.heap.size:=by have:=hb2.size;simp at this;omega
         go_wp2_with fail
         refine (begins_tok t _ _ _ HBG.out _).mono ?_
         rintro e w3 ⟨rfl,hb3⟩
         obtain ⟨tt,htt⟩ : ∃ tt,w1.heap.size = tt:=⟨_,rfl⟩
         have k0 : w3.heap[w.heap.size]? = wr.heap[w.heap.size]?:=(hb3.block _ (by omega)).trans ((hb2.block _ (by simp;omega)).trans ((Below.heap_alloc _ _ _ (by omega)).trans (hs1.block _ (by omega) neB0)))
         have k1 : w3.heap[w.heap.size + 1]? = wr.heap[w.heap.size + 1]?:=(hb3.block _ (by omega)).trans ((hb2.block _ (by simp;omega)).trans ((Below.heap_alloc _ _ _ (by omega)).trans (hs1.block _ (by omega) neB1)))
         have k2:=(hb3.block w1.heap.size (by omega)).trans ((hb2.block w1.heap.size (by simp)).trans (heap_new_at w1 _ _ rfl))
         have hbw1 : Below w1.heap.size w1 w3:=bel
         have hs3 : Bes r wr w3:=hs1.trans (.of_below hbw1)
         have hr3:=hr1.below hbw1
         have HPOS:=hr.pos
         rw [htt] at k2
         rw [htt]
         obtain ⟨b0,b1,b2,b3,b4,b5,bf⟩:=six_of (k1.trans hB1)
         have htb : wr.heap.size ≤ tt:=by omega
         have httw : tt < w3.heap.size:=lt_of_block k2
         obtain ⟨c0,c1,c2,c3,c4,cf⟩:=five_of k2
         have B0:=k0.trans hB0
         have B1:=k1.trans hB1
         have hown3 : w3.ownsRow _ _ _ _ _ _:=World.ownsRow.kept hown (row:=some r) ⟨hs3.os,hs3.tape,hs3.output,hs3.size,fun k h1 h2 => hs3.block k h1 (by intro h;exact h2 (by rw [h]))⟩ (.inr (by intro h;have:=own_base hown _ h;omega))
         have hkids3:=hkids.grow (w':=w3) (fun b h1 h2 => ⟨h1,hs3.block b h2 (by have:=h1.1;omega)⟩)
         have hm3 : MaxW w3 m:=hm.bes hs3 (hm.ne hr)
         clear k0 k1 hc2 hf2 hb2 hb3 htt hlt1 HN HW HBG hr hB0 hB1 hown hkids hbw1 hs1 hr1 hm
         go_wp2
         have hm4 : MaxW w3.drew m:=hm3
         have hr4 : RdAt w3.drew r s q:=hr3
         have HOb:=HB.out _ hm4 hr4
         have hbd : Bes r w w3.drew:=hbes.trans hs3.drew
         have hlt3 : w.heap.size + 1 < w3.drew.heap.size:=lt_of_block B1
         obtain ⟨i0,hi0,y0,y1,y2⟩:=info_parts Tryz.infoOb
         have hBw3 : w.heap.size + 2 ≤ w3.drew.heap.size:=by omega
         have hown3' : w3.drew.ownsRow (w.heap.size + 2) 36 6 (.slice vp acc.length vc) acc.length css.flatten:=hown3
         have hkids3' : KidsAt (fun b => w.heap.size + 2 ≤ b ∧ (Value.slice vp acc.length vc).ownBlock ≠ some b) (d + 1) w3.drew css acc:=hkids3.grow (fun b h1 h2 => ⟨h1,rfl⟩)
         go_region_law (first
           | (go_simp;go_at_call 151;refine HOb.mono ?_;rintro e w4 (⟨k,rfl,HX,hs4⟩ | ⟨o,p1,n1,c1,p2,n2,c2,z,rfl,hz1,hz2,hz3,HX,hO,hR4,hs4⟩);exact ⟨rfl,by rw [HX.out];exact ⟨rfl,hbd.trans hs4⟩⟩;have d5 : w4.cell? ⟨w.heap.size + 1,5,none⟩ = some (.slice vp acc.length vc):=(World.cell?_of_block (hs4.block _ hlt3 neB1)).trans b5;have df : w4.frozen? ⟨w.heap.size + 1,5,none⟩ = false:=(World.frozen?_of_block (hs4.block _ hlt3 neB1)).trans (bf 5);have hown4:=ownRow_bes hown3' hs4 (by omega);have hlt4:=hs4.size;have hltB4 : w.heap.size + 1 < w4.heap.size:=Nat.lt_of_lt_of_le hlt3 hlt4)
           | (refine step_append_lies _ (by rfl) _ _ _ (by rfl) (w.heap.size + 2) 36 i0 _ 6 88 Tryz.underlying34 hi0 y0 y1 y2 rfl (by omega) (.slice vp acc.length vc) acc.length css.flatten (by rfl) (hown4.alloc _)
                 ⟨w4.heap.size,0,none⟩ 1 1 (objCells o.kind o.n o.g o.s (.slice p1 n1 c1) (.slice p2 n2 c2)) (by rfl) (by rfl) (World.news_of_block (cs:=#[.int .i64 o.kind,.int .i64 o.n,.int .i64 o.g,.string ⟨o.s.toArray⟩,.slice p1 n1 c1,.slice p2 n2 c2]) (t:=36) (fr:=(0,0)) (heap_alloc_new w4 _)) (objCells_one _ _ _ _ _ _ _)
                 (by omega) (by unfold maxLen;omega) (by omega) (by simp;omega) (w4.heap.size + 1) (by simp) ?_;intro gg cap w5 hown5 hgrow hat hlt5
              have hfar:=own_base hown4
              have e5 : w5.cell? ⟨w.heap.size + 1,5,none⟩ = some (.slice vp acc.length vc):=(hgrow.cell_far ⟨w.heap.size + 1,5,none⟩ (by simp;omega) (by intro h;have h2 : w.heap.size + 2 ≤ w.heap.size + 1:=hfar _ h.symm;omega)).trans ((World.cell?_of_block (Below.heap_alloc _ _ _ (by show w.heap.size + 1 < _;omega))).trans d5)
              have ef : w5.frozen? ⟨w.heap.size + 1,5,none⟩ = false:=(hgrow.frozen_far ⟨w.heap.size + 1,5,none⟩ (by simp;omega) (by intro h;have h2 : w.heap.size + 2 ≤ w.heap.size + 1:=hfar _ h.symm;omega)).trans ((World.frozen?_of_block (Below.heap_alloc _ _ _ (by show w.heap.size + 1 < _;omega))).trans df)))
         all_goals go_wp2_with fail
         all_goals (go_roundw;(case rel => exact arr_round s m d fuel r z w w3.drew w4 w5 gg cap vp vc acc css o _ _ _ _ _ _ T hlt B0 B1 hown3' hkids3' hO hs4 hbd hR4 hm4 hr4 hown5 hgrow hat hz1 HX (by omega));(case measure => (rw [HPOS,(arr_rd (B:=w.heap.size + 2) (x:=w.heap.size + 1) (by omega) (Nat.lt_trans hlt (by omega)) hown3' hs4 hgrow hR4 (by omega)).pos];omega)))
       | true =>
         have HBG:=Lh hbg
         by_cases h0 : 0 < d
         · have e0 : decide ((24 : Int) - (d : Int) < 24) = true:=by simp;omega
           by_cases h9 : 8191 ≤ acc.length
           · have e9 : decide ((acc.length : Int) ≥ 8191) = true:=by simp;omega
             have HX:=Lh (H.out.symm.trans (arrS_many hn hw hbg h0 h9))
             clear hn H hw hbg HE
             go_wp2_with fail
             refine HN.out.mono ?_
             rintro e w1 ⟨rfl,hr1,hs1⟩
             go_wp2_with fail
             refine (word_in' _ _ _ _ _ _ _ false HW.out _).mono ?_
             rintro e w2 ⟨rfl,hb2⟩
             obtain ⟨hc2,hf2⟩:=bcell hb2
             have hlt1:=hs1.size
             have hlt2 : w1.heap.size + 1 ≤ w2.heap.size:=by have:=hb2.size;simp at this;omega
             go_wp2_with fail
             refine (begins_tok t _ _ _ HBG.out _).mono ?_
             rintro e w3 ⟨rfl,hb3⟩
             obtain ⟨tt,htt⟩ : ∃ tt,w1.heap.size = tt:=⟨_,rfl⟩
             have k0 : w3.heap[w.heap.size]? = wr.heap[w.heap.size]?:=(hb3.block _ (by omega)).trans ((hb2.block _ (by simp;omega)).trans ((Below.heap_alloc _ _ _ (by omega)).trans (hs1.block _ (by omega) neB0)))
             have k1 : w3.heap[w.heap.size + 1]? = wr.heap[w.heap.size + 1]?:=(hb3.block _ (by omega)).trans ((hb2.block _ (by simp;omega)).trans ((Below.heap_alloc _ _ _ (by omega)).trans (hs1.block _ (by omega) neB1)))
             have k2:=(hb3.block w1.heap.size (by omega)).trans ((hb2.block w1.heap.size (by simp)).trans (heap_new_at w1 _ _ rfl))
             have hbw1 : Below w1.heap.size w1 w3:=bel
             have hs3 : Bes r wr w3:=hs1.trans (.of_below hbw1)
             have hr3:=hr1.below hbw1
             have HPOS:=hr.pos
             rw [htt] at k2
             rw [htt]
             obtain ⟨b0,b1,b2,b3,b4,b5,bf⟩:=six_of (k1.trans hB1)
             have htb : wr.heap.size ≤ tt:=by omega
             have httw : tt < w3.heap.size:=lt_of_block k2
             obtain ⟨c0,c1,c2,c3,c4,cf⟩:=five_of k2
             have B0:=k0.trans hB0
             have B1:=k1.trans hB1
             have hown3 : w3.ownsRow _ _ _ _ _ _:=World.ownsRow.kept hown (row:=some r) ⟨hs3.os,hs3.tape,hs3.output,hs3.size,fun k h1 h2 => hs3.block k h1 (by intro h;exact h2 (by rw [h]))⟩ (.inr (by intro h;have:=own_base hown _ h;omega))
             have hkids3:=hkids.grow (w':=w3) (fun b h1 h2 => ⟨h1,hs3.block b h2 (by have:=h1.1;omega)⟩)
             have hm3 : MaxW w3 m:=hm.bes hs3 (hm.ne hr)
             clear k0 k1 hc2 hf2 hb2 hb3 htt hlt1 HN HW HBG hr hB0 hB1 hown hkids hbw1 hs1 hr1 hm
             go_wp2
             exact ⟨rfl,by rw [HX.out];exact ⟨rfl,hbes.trans hs3⟩⟩
           · have e9 : decide ((acc.length : Int) ≥ 8191) = false:=by simp;omega
             have HB:=Lh (HE (fun h => h9 h.2.2))
             clear hn H hw hbg HE
             go_wp2_with fail
             refine HN.out.mono ?_
             rintro e w1 ⟨rfl,hr1,hs1⟩
             go_wp2_with fail
             refine (word_in' _ _ _ _ _ _ _ false HW.out _).mono ?_
             rintro e w2 ⟨rfl,hb2⟩
             obtain ⟨hc2,hf2⟩:=bcell hb2
             have hlt1:=hs1.size
             have hlt2 : w1.heap.size + 1 ≤ w2.heap.size:=by have:=hb2.size;simp at this;omega
             go_wp2_with fail
             refine (begins_tok t _ _ _ HBG.out _).mono ?_
             rintro e w3 ⟨rfl,hb3⟩
             obtain ⟨tt,htt⟩ : ∃ tt,w1.heap.size = tt:=⟨_,rfl⟩
             have k0 : w3.heap[w.heap.size]? = wr.heap[w.heap.size]?:=(hb3.block _ (by omega)).trans ((hb2.block _ (by simp;omega)).trans ((Below.heap_alloc _ _ _ (by omega)).trans (hs1.block _ (by omega) neB0)))
             have k1 : w3.heap[w.heap.size + 1]? = wr.heap[w.heap.size + 1]?:=(hb3.block _ (by omega)).trans ((hb2.block _ (by simp;omega)).trans ((Below.heap_alloc _ _ _ (by omega)).trans (hs1.block _ (by omega) neB1)))
             have k2:=(hb3.block w1.heap.size (by omega)).trans ((hb2.block w1.heap.size (by simp)).trans (heap_new_at w1 _ _ rfl))
             have hbw1 : Below w1.heap.size w1 w3:=bel
             have hs3 : Bes r wr w3:=hs1.trans (.of_below hbw1)
             have hr3:=hr1.below hbw1
             have HPOS:=hr.pos
             rw [htt] at k2
             rw [htt]
             obtain ⟨b0,b1,b2,b3,b4,b5,bf⟩:=six_of (k1.trans hB1)
             have htb : wr.heap.size ≤ tt:=by omega
             have httw : tt < w3.heap.size:=lt_of_block k2
             obtain ⟨c0,c1,c2,c3,c4,cf⟩:=five_of k2
             have B0:=k0.trans hB0
             have B1:=k1.trans hB1
             have hown3 : w3.ownsRow _ _ _ _ _ _:=World.ownsRow.kept hown (row:=some r) ⟨hs3.os,hs3.tape,hs3.output,hs3.size,fun k h1 h2 => hs3.block k h1 (by intro h;exact h2 (by rw [h]))⟩ (.inr (by intro h;have:=own_base hown _ h;omega))
             have hkids3:=hkids.grow (w':=w3) (fun b h1 h2 => ⟨h1,hs3.block b h2 (by have:=h1.1;omega)⟩)
             have hm3 : MaxW w3 m:=hm.bes hs3 (hm.ne hr)
             clear k0 k1 hc2 hf2 hb2 hb3 htt hlt1 HN HW HBG hr hB0 hB1 hown hkids hbw1 hs1 hr1 hm
             go_wp2
             have hm4 : MaxW w3.drew m:=hm3
             have hr4 : RdAt w3.drew r s q:=hr3
             have HOb:=HB.out _ hm4 hr4
             have hbd : Bes r w w3.drew:=hbes.trans hs3.drew
             have hlt3 : w.heap.size + 1 < w3.drew.heap.size:=lt_of_block B1
             obtain ⟨i0,hi0,y0,y1,y2⟩:=info_parts Tryz.infoOb
             have hBw3 : w.heap.size + 2 ≤ w3.drew.heap.size:=by omega
             have hown3' : w3.drew.ownsRow (w.heap.size + 2) 36 6 (.slice vp acc.length vc) acc.length css.flatten:=hown3
             have hkids3' : KidsAt (fun b => w.heap.size + 2 ≤ b ∧ (Value.slice vp acc.length vc).ownBlock ≠ some b) (d + 1) w3.drew css acc:=hkids3.grow (fun b h1 h2 => ⟨h1,rfl⟩)
             go_region_law (first
               | (go_simp;go_at_call 151;refine HOb.mono ?_;rintro e w4 (⟨k,rfl,HX,hs4⟩ | ⟨o,p1,n1,c1,p2,n2,c2,z,rfl,hz1,hz2,hz3,HX,hO,hR4,hs4⟩);exact ⟨rfl,by rw [HX.out];exact ⟨rfl,hbd.trans hs4⟩⟩;have d5 : w4.cell? ⟨w.heap.size + 1,5,none⟩ = some (.slice vp acc.length vc):=(World.cell?_of_block (hs4.block _ hlt3 neB1)).trans b5;have df : w4.frozen? ⟨w.heap.size + 1,5,none⟩ = false:=(World.frozen?_of_block (hs4.block _ hlt3 neB1)).trans (bf 5);have hown4:=ownRow_bes hown3' hs4 (by omega);have hlt4:=hs4.size;have hltB4 : w.heap.size + 1 < w4.heap.size:=Nat.lt_of_lt_of_le hlt3 hlt4)
               | (refine step_append_lies _ (by rfl) _ _ _ (by rfl) (w.heap.size + 2) 36 i0 _ 6 88 Tryz.underlying34 hi0 y0 y1 y2 rfl (by omega) (.slice vp acc.length vc) acc.length css.flatten (by rfl) (hown4.alloc _)
                     ⟨w4.heap.size,0,none⟩ 1 1 (objCells o.kind o.n o.g o.s (.slice p1 n1 c1) (.slice p2 n2 c2)) (by rfl) (by rfl) (World.news_of_block (cs:=#[.int .i64 o.kind,.int .i64 o.n,.int .i64 o.g,.string ⟨o.s.toArray⟩,.slice p1 n1 c1,.slice p2 n2 c2]) (t:=36) (fr:=(0,0)) (heap_alloc_new w4 _)) (objCells_one _ _ _ _ _ _ _)
                     (by omega) (by unfold maxLen;omega) (by omega) (by simp;omega) (w4.heap.size + 1) (by simp) ?_;intro gg cap w5 hown5 hgrow hat hlt5
                  have hfar:=own_base hown4
                  have e5 : w5.cell? ⟨w.heap.size + 1,5,none⟩ = some (.slice vp acc.length vc):=(hgrow.cell_far ⟨w.heap.size + 1,5,none⟩ (by simp;omega) (by intro h;have h2 : w.heap.size + 2 ≤ w.heap.size + 1:=hfar _ h.symm;omega)).trans ((World.cell?_of_block (Below.heap_alloc _ _ _ (by show w.heap.size + 1 < _;omega))).trans d5)
                  have ef : w5.frozen? ⟨w.heap.size + 1,5,none⟩ = false:=(hgrow.frozen_far ⟨w.heap.size + 1,5,none⟩ (by simp;omega) (by intro h;have h2 : w.heap.size + 2 ≤ w.heap.size + 1:=hfar _ h.symm;omega)).trans ((World.frozen?_of_block (Below.heap_alloc _ _ _ (by show w.heap.size + 1 < _;omega))).trans df)))
             all_goals go_wp2_with fail
             all_goals (go_roundw;(case rel => exact arr_round s m d fuel r z w w3.drew w4 w5 gg cap vp vc acc css o _ _ _ _ _ _ T hlt B0 B1 hown3' hkids3' hO hs4 hbd hR4 hm4 hr4 hown5 hgrow hat hz1 HX (by omega));(case measure => (rw [HPOS,(arr_rd (B:=w.heap.size + 2) (x:=w.heap.size + 1) (by omega) (Nat.lt_trans hlt (by omega)) hown3' hs4 hgrow hR4 (by omega)).pos];omega)))
         · have e0 : decide ((24 : Int) - (d : Int) < 24) = false:=by simp;omega
           have HB:=Lh (HE (fun h => h0 h.2.1))
           clear hn H hw hbg HE
           go_wp2_with fail
           refine HN.out.mono ?_
           rintro e w1 ⟨rfl,hr1,hs1⟩
           go_wp2_with fail
           refine (word_in' _ _ _ _ _ _ _ false HW.out _).mono ?_
           rintro e w2 ⟨rfl,hb2⟩
           obtain ⟨hc2,hf2⟩:=bcell hb2
           have hlt1:=hs1.size
           have hlt2 : w1.heap.size + 1 ≤ w2.heap.size:=by have:=hb2.size;simp at this;omega
           go_wp2_with fail
           refine (begins_tok t _ _ _ HBG.out _).mono ?_
           rintro e w3 ⟨rfl,hb3⟩
           obtain ⟨tt,htt⟩ : ∃ tt,w1.heap.size = tt:=⟨_,rfl⟩
           have k0 : w3.heap[w.heap.size]? = wr.heap[w.heap.size]?:=(hb3.block _ (by omega)).trans ((hb2.block _ (by simp;omega)).trans ((Below.heap_alloc _ _ _ (by omega)).trans (hs1.block _ (by omega) neB0)))
           have k1 : w3.heap[w.heap.size + 1]? = wr.heap[w.heap.size + 1]?:=(hb3.block _ (by omega)).trans ((hb2.block _ (by simp;omega)).trans ((Below.heap_alloc _ _ _ (by omega)).trans (hs1.block _ (by omega) neB1)))
           have k2:=(hb3.block w1.heap.size (by omega)).trans ((hb2.block w1.heap.size (by simp)).trans (heap_new_at w1 _ _ rfl))
           have hbw1 : Below w1.heap.size w1 w3:=bel
           have hs3 : Bes r wr w3:=hs1.trans (.of_below hbw1)
           have hr3:=hr1.below hbw1
           have HPOS:=hr.pos
           rw [htt] at k2
           rw [htt]
           obtain ⟨b0,b1,b2,b3,b4,b5,bf⟩:=six_of (k1.trans hB1)
           have htb : wr.heap.size ≤ tt:=by omega
           have httw : tt < w3.heap.size:=lt_of_block k2
           obtain ⟨c0,c1,c2,c3,c4,cf⟩:=five_of k2
           have B0:=k0.trans hB0
           have B1:=k1.trans hB1
           have hown3 : w3.ownsRow _ _ _ _ _ _:=World.ownsRow.kept hown (row:=some r) ⟨hs3.os,hs3.tape,hs3.output,hs3.size,fun k h1 h2 => hs3.block k h1 (by intro h;exact h2 (by rw [h]))⟩ (.inr (by intro h;have:=own_base hown _ h;omega))
           have hkids3:=hkids.grow (w':=w3) (fun b h1 h2 => ⟨h1,hs3.block b h2 (by have:=h1.1;omega)⟩)
           have hm3 : MaxW w3 m:=hm.bes hs3 (hm.ne hr)
           clear k0 k1 hc2 hf2 hb2 hb3 htt hlt1 HN HW HBG hr hB0 hB1 hown hkids hbw1 hs1 hr1 hm
           go_wp2
           have hm4 : MaxW w3.drew m:=hm3
           have hr4 : RdAt w3.drew r s q:=hr3
           have HOb:=HB.out _ hm4 hr4
           have hbd : Bes r w w3.drew:=hbes.trans hs3.drew
           have hlt3 : w.heap.size + 1 < w3.drew.heap.size:=lt_of_block B1
           obtain ⟨i0,hi0,y0,y1,y2⟩:=info_parts Tryz.infoOb
           have hBw3 : w.heap.size + 2 ≤ w3.drew.heap.size:=by omega
           have hown3' : w3.drew.ownsRow (w.heap.size + 2) 36 6 (.slice vp acc.length vc) acc.length css.flatten:=hown3
           have hkids3' : KidsAt (fun b => w.heap.size + 2 ≤ b ∧ (Value.slice vp acc.length vc).ownBlock ≠ some b) (d + 1) w3.drew css acc:=hkids3.grow (fun b h1 h2 => ⟨h1,rfl⟩)
           go_region_law (first
             | (go_simp;go_at_call 151;refine HOb.mono ?_;rintro e w4 (⟨k,rfl,HX,hs4⟩ | ⟨o,p1,n1,c1,p2,n2,c2,z,rfl,hz1,hz2,hz3,HX,hO,hR4,hs4⟩);exact ⟨rfl,by rw [HX.out];exact ⟨rfl,hbd.trans hs4⟩⟩;have d5 : w4.cell? ⟨w.heap.size + 1,5,none⟩ = some (.slice vp acc.length vc):=(World.cell?_of_block (hs4.block _ hlt3 neB1)).trans b5;have df : w4.frozen? ⟨w.heap.size + 1,5,none⟩ = false:=(World.frozen?_of_block (hs4.block _ hlt3 neB1)).trans (bf 5);have hown4:=ownRow_bes hown3' hs4 (by omega);have hlt4:=hs4.size;have hltB4 : w.heap.size + 1 < w4.heap.size:=Nat.lt_of_lt_of_le hlt3 hlt4)
             | (refine step_append_lies _ (by rfl) _ _ _ (by rfl) (w.heap.size + 2) 36 i0 _ 6 88 Tryz.underlying34 hi0 y0 y1 y2 rfl (by omega) (.slice vp acc.length vc) acc.length css.flatten (by rfl) (hown4.alloc _)
                   ⟨w4.heap.size,0,none⟩ 1 1 (objCells o.kind o.n o.g o.s (.slice p1 n1 c1) (.slice p2 n2 c2)) (by rfl) (by rfl) (World.news_of_block (cs:=#[.int .i64 o.kind,.int .i64 o.n,.int .i64 o.g,.string ⟨o.s.toArray⟩,.slice p1 n1 c1,.slice p2 n2 c2]) (t:=36) (fr:=(0,0)) (heap_alloc_new w4 _)) (objCells_one _ _ _ _ _ _ _)
                   (by omega) (by unfold maxLen;omega) (by omega) (by simp;omega) (w4.heap.size + 1) (by simp) ?_;intro gg cap w5 hown5 hgrow hat hlt5
                have hfar:=own_base hown4
                have e5 : w5.cell? ⟨w.heap.size + 1,5,none⟩ = some (.slice vp acc.length vc):=(hgrow.cell_far ⟨w.heap.size + 1,5,none⟩ (by simp;omega) (by intro h;have h2 : w.heap.size + 2 ≤ w.heap.size + 1:=hfar _ h.symm;omega)).trans ((World.cell?_of_block (Below.heap_alloc _ _ _ (by show w.heap.size + 1 < _;omega))).trans d5)
                have ef : w5.frozen? ⟨w.heap.size + 1,5,none⟩ = false:=(hgrow.frozen_far ⟨w.heap.size + 1,5,none⟩ (by simp;omega) (by intro h;have h2 : w.heap.size + 2 ≤ w.heap.size + 1:=hfar _ h.symm;omega)).trans ((World.frozen?_of_block (Below.heap_alloc _ _ _ (by show w.heap.size + 1 < _;omega))).trans df)))
           all_goals go_wp2_with fail
           all_goals (go_roundw;(case rel => exact arr_round s m d fuel r z w w3.drew w4 w5 gg cap vp vc acc css o _ _ _ _ _ _ T hlt B0 B1 hown3' hkids3' hO hs4 hbd hR4 hm4 hr4 hown5 hgrow hat hz1 HX (by omega));(case measure => (rw [HPOS,(arr_rd (B:=w.heap.size + 2) (x:=w.heap.size + 1) (by omega) (Nat.lt_trans hlt (by omega)) hown3' hs4 hgrow hR4 (by omega)).pos];omega)))
open Go.RowKit Fo
def TokAt (s : ByteArray) (a : Nat) (t : Tok) (p : Nat) : Prop:=(nextT (s.data.toList.drop a)).2 = .good t ∧ a + (nextT (s.data.toList.drop a)).1 = p ∧ p + t.len ≤ s.size
theorem tokAt_of {s : ByteArray} {a : Nat} {t : Tok} (ha : a ≤ s.size) (h : (nextT (s.data.toList.drop a)).2 = .good t) : TokAt s a t (a + (nextT (s.data.toList.drop a)).1):=by
 refine ⟨h,rfl,?_⟩
 have:=(nextT_good h).1
 simp only [List.length_drop,Array.length_toList,show s.data.size = s.size from rfl] at this
 omega
theorem numR_at {s : ByteArray} {a : Nat} {lo hi n : Int} {r : L} (ha : a ≤ s.size) (h : numR (s.data.toList.drop a) lo hi = some (n, r)) :
   ∃ (l : Nat) (x : L) (p : Nat),TokAt s a ⟨1,l,n,x⟩ p ∧ lo ≤ n ∧ n ≤ hi ∧ r = s.data.toList.drop (p + l):=by
 unfold numR at h
 cases ht : (nextT (s.data.toList.drop a)).2 with
 | bad e => rw [ht] at h;cases h
 | good t =>
   rw [ht] at h
   dsimp only at h
   split at h
   · rename_i hc
     cases h
     obtain ⟨k,l,n,x⟩:=t
     obtain ⟨hk,h1,h2⟩:=hc
     dsimp only at hk
     subst hk
     exact ⟨l,x,_,tokAt_of ha ht,h1,h2,by rw [List.drop_drop,Nat.add_assoc]⟩
   · cases h
theorem wordR_at {s : ByteArray} {a : Nat} {w r : L} (ha : a ≤ s.size) (h : wordR (s.data.toList.drop a) w = some r) :
   ∃ (l : Nat) (n : Int) (p : Nat),TokAt s a ⟨5,l,n,w⟩ p ∧ r = s.data.toList.drop (p + l):=by
 unfold wordR at h
 cases ht : (nextT (s.data.toList.drop a)).2 with
 | bad e => rw [ht] at h;cases h
 | good t =>
   rw [ht] at h
   dsimp only at h
   split at h
   · rename_i hc
     cases h
     obtain ⟨k,l,n,x⟩:=t
     obtain ⟨hk,h1⟩:=hc
     dsimp only at hk h1
     subst hk
     subst h1
     exact ⟨l,n,_,tokAt_of ha ht,by rw [List.drop_drop,Nat.add_assoc]⟩
   · cases h
theorem entryR_at {s : ByteArray} {a : Nat} {num : Int} {x : Sl} {r : L} (ha : a ≤ s.size) (h : entryR num (s.data.toList.drop a) = some (x, r)) :
   ∃ (A G : Int) (l1 : Nat) (x1 : L) (p1 l2 : Nat) (x2 : L) (p2 l3 : Nat) (n3 : Int) (p3 : Nat) (yes : Bool),TokAt s a ⟨1,l1,A,x1⟩ p1 ∧ TokAt s (p1 + l1) ⟨1,l2,G,x2⟩ p2 ∧ TokAt s (p2 + l2) ⟨5,l3,n3,if yes then [110] else [102]⟩ p3 ∧
     0 ≤ A ∧ A ≤ 2147483647 ∧ 0 ≤ G ∧ G ≤ 65535 ∧ x = ⟨num,if yes then 1 else 0,A,G⟩ ∧ r = s.data.toList.drop (p3 + l3):=by
 unfold entryR at h
 cases h1 : numR (s.data.toList.drop a) 0 2147483647 with
 | none => rw [h1] at h;cases h
 | some y =>
   obtain ⟨A,r1⟩:=y
   rw [h1] at h
   dsimp only at h
   obtain ⟨l1,x1,p1,T1,b1,b2,rfl⟩:=numR_at ha h1
   have ha1 : p1 + l1 ≤ s.size:=T1.2.2
   cases h2 : numR (s.data.toList.drop (p1 + l1)) 0 65535 with
   | none => rw [h2] at h;cases h
   | some y =>
     obtain ⟨G,r2⟩:=y
     rw [h2] at h
     dsimp only at h
     obtain ⟨l2,x2,p2,T2,b3,b4,rfl⟩:=numR_at ha1 h2
     have ha2 : p2 + l2 ≤ s.size:=T2.2.2
     cases h3 : wordR (s.data.toList.drop (p2 + l2)) [110] with
     | some l3 =>
       rw [h3] at h
       cases h
       obtain ⟨l3,n3,p3,T3,rfl⟩:=wordR_at ha2 h3
       exact ⟨A,G,l1,x1,p1,l2,x2,p2,l3,n3,p3,true,T1,T2,T3,b1,b2,b3,b4,rfl,rfl⟩
     | none =>
       rw [h3] at h
       dsimp only at h
       cases h4 : wordR (s.data.toList.drop (p2 + l2)) [102] with
       | none => rw [h4] at h;cases h
       | some l3 =>
         rw [h4] at h
         cases h
         obtain ⟨l3,n3,p3,T3,rfl⟩:=wordR_at ha2 h4
         exact ⟨A,G,l1,x1,p1,l2,x2,p2,l3,n3,p3,false,T1,T2,T3,b1,b2,b3,b4,rfl,rfl⟩
theorem tok_pos {s : ByteArray} {a l p : Nat} {k n : Int} {x : L} (h : TokAt s a ⟨k,l,n,x⟩ p) (hk : k ≠ 0) (ha : a ≤ s.size) : a < p + l:=by
 have hn : nextS (s.data.toList.drop a) = .good (⟨k,l,n,x⟩,(s.data.toList.drop a).drop ((nextT (s.data.toList.drop a)).1 + l)):=by
   unfold nextS;rw [h.1];dsimp only;rw [if_neg hk]
 have h1:=(nextS_shorter hn).1
 have h2:=h.2.1
 simp only [List.length_drop,Array.length_toList,show s.data.size = s.size from rfl] at h1
 omega
theorem tnext_at (r : Nat) (s : ByteArray) (a p l : Nat) (k n : Int) (x : L) (hT : TokAt s a ⟨k, l, n, x⟩ p) (ha : a ≤ s.size) (hs : s.size ≤ 140737488355327) (m : Int) (w : World) (hm : MaxW w m) (hr : RdT w r s a) :
   Calls Tryz.prog 72 #[.pointer (some ⟨r,0,none⟩)] w fun e w' => e = .returned (.agg #[.int .i64 k,.int .i64 p,.int .i64 (p + l : Nat),.int .i64 n,.string ⟨x.toArray⟩]) ∧ RdT w' r s (p + l) ∧ Bes r w w' :=
 tnext_good r s a p ⟨k,l,n,x⟩ ha hs m w hm hr hT.1 hT.2.1
theorem tentry_good (r : Nat) (s : ByteArray) (a : Nat) (num : Int) (x : Sl) (rest : L) (h : entryR num (s.data.toList.drop a) = some (x, rest)) (ha : a ≤ s.size) (hs : s.size ≤ 140737488355327) (m : Int) (w : World) (hm : MaxW w m) (hr : RdT w r s a) (hrm : r ≠ 1) :
   Calls Tryz.prog 118 #[.pointer (some ⟨r,0,none⟩),.int .i64 num] w fun e w' => e = .returned (slV x) ∧ (∃ b,a < b ∧ b ≤ s.size ∧ rest = s.data.toList.drop b ∧ RdT w' r s b) ∧ Bes r w w':=by
 obtain ⟨A,G,l1,x1,p1,l2,x2,p2,l3,n3,p3,yes,T1,T2,T3,b1,b2,b3,b4,rfl,rfl⟩:=entryR_at ha h
 have hp3:=T3.2.2
 have hab : a < p3 + l3:=by
   have h1:=tok_pos T1 (by decide) ha
   have h2:=tok_pos T2 (by decide) T1.2.2
   have h3:=tok_pos T3 (by decide) T2.2.2
   omega
 clear h
 have hlt0:=hr.lt
 cases yes
 · have HT:=Lh (And.intro T1 (And.intro T2 T3))
   simp only [Bool.false_eq_true,if_false] at HT ⊢
   clear T1 T2 T3
   go_enter Tryz.func118,Tryz.ntmps118
   go_wp2_with fail
   refine (tnext_at r s a p1 l1 1 A x1 HT.out.1 ha hs m _ (hm.below bel) (hr.below bel)).mono ?_
   rintro e w1 ⟨rfl,hr1,hs1⟩
   have hm1 : MaxW w1 m:=MaxW.bes (hm.below (w':=w.alloc (.cells #[.int .i64 0,.int .i64 0,.int .i64 0,.int .i64 0] 28)) bel) hs1 hrm
   have hz1:=hs1.size
   simp at hz1
   go_wp2_with fail
   refine (twhole_good A 2147483647 p1 (p1 + l1) _ b1 b2 _).mono ?_
   rintro e w2 ⟨rfl,hb2⟩
   have hz2:=hb2.size
   go_wp2_with fail
   refine (tnext_at r s (p1 + l1) p2 l2 1 G x2 HT.out.2.1 HT.out.1.2.2 hs m _ (hm1.below hb2) (hr1.below hb2)).mono ?_
   rintro e w3 ⟨rfl,hr3,hs3⟩
   have hm3:=MaxW.bes (hm1.below hb2) hs3 hrm
   have hz3:=hs3.size
   go_wp2_with fail
   refine (twhole_good G 65535 p2 (p2 + l2) _ b3 b4 _).mono ?_
   rintro e w4 ⟨rfl,hb4⟩
   have hz4:=hb4.size
   have hs14 : Bes r w w4:=(((Bes.of_below (r:=r) (show Below w.heap.size w (w.alloc (.cells #[.int .i64 0,.int .i64 0,.int .i64 0,.int .i64 0] 28)) from bel)).trans hs1).trans (Bes.of_below hb2)).trans (hs3.trans (Bes.of_below hb4))
   have hr4:=hr3.below hb4
   have hm4:=hm3.below hb4
   have hlt:=hr.lt
   have X0 : w4.heap[w.heap.size]? = some (.cells #[.int .i64 0,.int .i64 0,.int .i64 0,.int .i64 0] 28 (0,0)):=by
     rw [hb4.block _ (by omega),hs3.block _ (by omega) (by omega),hb2.block _ (by omega),hs1.block _ (by simp) (by omega)]
     exact heap_new_at _ _ _ rfl
   clear hs1 hb2 hs3 hb4 hm1 hm3 hr1 hr3 hm hr
   go_upto_region 2 with fail
   obtain ⟨w5,hw5⟩ : ∃ w5,w4.alloc (.cells #[.int .i64 num,.int .i64 0,.int .i64 A,.int .i64 G] 28) = w5:=⟨_,rfl⟩
   have hb5 : Below w4.heap.size w4 w5:=by rw [← hw5];exact bel
   have X1 : w5.heap[w4.heap.size]? = some (.cells #[.int .i64 num,.int .i64 0,.int .i64 A,.int .i64 G] 28 (0,0)):=by rw [← hw5];exact heap_new_at _ _ _ rfl
   have hz5 : w5.heap.size = w4.heap.size + 1:=by rw [← hw5];simp
   rw [hw5]
   clear hw5
   go_wp2_with fail
   refine (tnext_at r s (p2 + l2) p3 l3 5 n3 _ HT.out.2.2 HT.out.2.1.2.2 hs m _ (hm4.below hb5) (hr4.below hb5)).mono ?_
   rintro e w6 ⟨rfl,hr6,hs6⟩
   have hz6:=hs6.size
   have Y0:=(hs6.block w.heap.size (by omega) (by omega)).trans ((hb5.block _ (by omega)).trans X0)
   have Y1:=(hs6.block w4.heap.size (by omega) (by omega)).trans X1
   have hs16 : Bes r w w6:=(hs14.trans (Bes.of_below hb5)).trans hs6
   have hl6:=hr6.lt
   clear hs6 hb5 X0 X1 hs14 hr4 hm4
   go_upto_region 3 with fail
   obtain ⟨w7,hw7⟩ : ∃ w7,w6.alloc (.cells #[.int .i64 5,.int .i64 p3,.int .i64 (p3 + l3 : Nat),.int .i64 n3,.string ⟨([102] : L).toArray⟩] 96) = w7:=⟨_,rfl⟩
   have hb7 : Below w6.heap.size w6 w7:=by rw [← hw7];exact bel
   have X7 : w7.heap[w6.heap.size]? = some (.cells #[.int .i64 5,.int .i64 p3,.int .i64 (p3 + l3 : Nat),.int .i64 n3,.string ⟨([102] : L).toArray⟩] 96 (0,0)):=by rw [← hw7];exact heap_new_at _ _ _ rfl
   simp only [Int.natCast_add,List.toArray] at hw7 X7 ⊢
   rw [hw7]
   replace Y0:=(hb7.block _ (by omega)).trans Y0
   replace Y1:=(hb7.block _ (by omega)).trans Y1
   have hs17:=hs16.trans (Bes.of_below hb7)
   have hr7:=hr6.below hb7
   clear hw7 hb7 hs16 hr6
   obtain ⟨z0,z1,z2,z3⟩ : w7.cell? ⟨w.heap.size,0,none⟩ = some (.int .i64 0) ∧ w7.cell? ⟨w.heap.size,1,none⟩ = some (.int .i64 0) ∧ w7.cell? ⟨w.heap.size,2,none⟩ = some (.int .i64 0) ∧ w7.cell? ⟨w.heap.size,3,none⟩ = some (.int .i64 0):=by simp [World.cell?,Y0]
   obtain ⟨y0,y1,y2,y3⟩ : w7.cell? ⟨w4.heap.size,0,none⟩ = some (.int .i64 num) ∧ w7.cell? ⟨w4.heap.size,1,none⟩ = some (.int .i64 0) ∧ w7.cell? ⟨w4.heap.size,2,none⟩ = some (.int .i64 A) ∧ w7.cell? ⟨w4.heap.size,3,none⟩ = some (.int .i64 G):=by simp [World.cell?,Y1]
   have t0 : w7.cell? ⟨w6.heap.size,0,none⟩ = some (.int .i64 5):=by simp [World.cell?,X7]
   have t4 : w7.cell? ⟨w6.heap.size,4,none⟩ = some (.string ⟨([102] : L).toArray⟩):=by simp [World.cell?,X7]
   have zf : ∀ o,w7.frozen? ⟨w.heap.size,o,none⟩ = false:=fun o => by simp [World.frozen?,Y0]
   have yf : ∀ o,w7.frozen? ⟨w4.heap.size,o,none⟩ = false:=fun o => by simp [World.frozen?,Y1]
   have ne1 : ¬ w.heap.size = w4.heap.size:=by omega
   have ne2 : ¬ w4.heap.size = w.heap.size:=by omega
   clear Y0 Y1 X7
   go_wp2_with (go_at_call 71;refine (tmust_yes _).mono ?_;rintro e w9 ⟨rfl,rfl⟩)
   refine bodyPost_ret (v:=.agg #[.int .i64 num,.int .i64 0,.int .i64 A,.int .i64 G]) (by simp [results,Tryz.results118,go_sem,z0,z1,z2,z3,zf,y0,y1,y2,y3,yf]) rfl ⟨rfl,⟨p3 + l3,hab,hp3,rfl,?_⟩,?_⟩
   · exact hr7.belowB (B:=r + 1) belr (by omega)
   · exact (by repeat' (first | exact hs17 | (with_reducible refine Bes.setCell_new ?_ ?_ _) | (show w.heap.size ≤ w4.heap.size;omega) | (show _ ≤ _;simp;done) | omega))
 · have HT:=Lh (And.intro T1 (And.intro T2 T3))
   simp only [if_true] at HT ⊢
   clear T1 T2 T3
   go_enter Tryz.func118,Tryz.ntmps118
   go_wp2_with fail
   refine (tnext_at r s a p1 l1 1 A x1 HT.out.1 ha hs m _ (hm.below bel) (hr.below bel)).mono ?_
   rintro e w1 ⟨rfl,hr1,hs1⟩
   have hm1 : MaxW w1 m:=MaxW.bes (hm.below (w':=w.alloc (.cells #[.int .i64 0,.int .i64 0,.int .i64 0,.int .i64 0] 28)) bel) hs1 hrm
   have hz1:=hs1.size
   simp at hz1
   go_wp2_with fail
   refine (twhole_good A 2147483647 p1 (p1 + l1) _ b1 b2 _).mono ?_
   rintro e w2 ⟨rfl,hb2⟩
   have hz2:=hb2.size
   go_wp2_with fail
   refine (tnext_at r s (p1 + l1) p2 l2 1 G x2 HT.out.2.1 HT.out.1.2.2 hs m _ (hm1.below hb2) (hr1.below hb2)).mono ?_
   rintro e w3 ⟨rfl,hr3,hs3⟩
   have hm3:=MaxW.bes (hm1.below hb2) hs3 hrm
   have hz3:=hs3.size
   go_wp2_with fail
   refine (twhole_good G 65535 p2 (p2 + l2) _ b3 b4 _).mono ?_
   rintro e w4 ⟨rfl,hb4⟩
   have hz4:=hb4.size
   have hs14 : Bes r w w4:=(((Bes.of_below (r:=r) (show Below w.heap.size w (w.alloc (.cells #[.int .i64 0,.int .i64 0,.int .i64 0,.int .i64 0] 28)) from bel)).trans hs1).trans (Bes.of_below hb2)).trans (hs3.trans (Bes.of_below hb4))
   have hr4:=hr3.below hb4
   have hm4:=hm3.below hb4
   have hlt:=hr.lt
   have X0 : w4.heap[w.heap.size]? = some (.cells #[.int .i64 0,.int .i64 0,.int .i64 0,.int .i64 0] 28 (0,0)):=by
     rw [hb4.block _ (by omega),hs3.block _ (by omega) (by omega),hb2.block _ (by omega),hs1.block _ (by simp) (by omega)]
     exact heap_new_at _ _ _ rfl
   clear hs1 hb2 hs3 hb4 hm1 hm3 hr1 hr3 hm hr
   go_upto_region 2 with fail
   obtain ⟨w5,hw5⟩ : ∃ w5,w4.alloc (.cells #[.int .i64 num,.int .i64 0,.int .i64 A,.int .i64 G] 28) = w5:=⟨_,rfl⟩
   have hb5 : Below w4.heap.size w4 w5:=by rw [← hw5];exact bel
   have X1 : w5.heap[w4.heap.size]? = some (.cells #[.int .i64 num,.int .i64 0,.int .i64 A,.int .i64 G] 28 (0,0)):=by rw [← hw5];exact heap_new_at _ _ _ rfl
   have hz5 : w5.heap.size = w4.heap.size + 1:=by rw [← hw5];simp
   rw [hw5]
   clear hw5
   go_wp2_with fail
   refine (tnext_at r s (p2 + l2) p3 l3 5 n3 _ HT.out.2.2 HT.out.2.1.2.2 hs m _ (hm4.below hb5) (hr4.below hb5)).mono ?_
   rintro e w6 ⟨rfl,hr6,hs6⟩
   have hz6:=hs6.size
   have Y0:=(hs6.block w.heap.size (by omega) (by omega)).trans ((hb5.block _ (by omega)).trans X0)
   have Y1:=(hs6.block w4.heap.size (by omega) (by omega)).trans X1
   have hs16 : Bes r w w6:=(hs14.trans (Bes.of_below hb5)).trans hs6
   have hl6:=hr6.lt
   clear hs6 hb5 X0 X1 hs14 hr4 hm4
   go_upto_region 3 with fail
   obtain ⟨w7,hw7⟩ : ∃ w7,w6.alloc (.cells #[.int .i64 5,.int .i64 p3,.int .i64 (p3 + l3 : Nat),.int .i64 n3,.string ⟨([110] : L).toArray⟩] 96) = w7:=⟨_,rfl⟩
   have hb7 : Below w6.heap.size w6 w7:=by rw [← hw7];exact bel
   have X7 : w7.heap[w6.heap.size]? = some (.cells #[.int .i64 5,.int .i64 p3,.int .i64 (p3 + l3 : Nat),.int .i64 n3,.string ⟨([110] : L).toArray⟩] 96 (0,0)):=by rw [← hw7];exact heap_new_at _ _ _ rfl
   simp only [Int.natCast_add,List.toArray] at hw7 X7 ⊢
   rw [hw7]
   replace Y0:=(hb7.block _ (by omega)).trans Y0
   replace Y1:=(hb7.block _ (by omega)).trans Y1
   have hs17:=hs16.trans (Bes.of_below hb7)
   have hr7:=hr6.below hb7
   clear hw7 hb7 hs16 hr6
   obtain ⟨z0,z1,z2,z3⟩ : w7.cell? ⟨w.heap.size,0,none⟩ = some (.int .i64 0) ∧ w7.cell? ⟨w.heap.size,1,none⟩ = some (.int .i64 0) ∧ w7.cell? ⟨w.heap.size,2,none⟩ = some (.int .i64 0) ∧ w7.cell? ⟨w.heap.size,3,none⟩ = some (.int .i64 0):=by simp [World.cell?,Y0]
   obtain ⟨y0,y1,y2,y3⟩ : w7.cell? ⟨w4.heap.size,0,none⟩ = some (.int .i64 num) ∧ w7.cell? ⟨w4.heap.size,1,none⟩ = some (.int .i64 0) ∧ w7.cell? ⟨w4.heap.size,2,none⟩ = some (.int .i64 A) ∧ w7.cell? ⟨w4.heap.size,3,none⟩ = some (.int .i64 G):=by simp [World.cell?,Y1]
   have t0 : w7.cell? ⟨w6.heap.size,0,none⟩ = some (.int .i64 5):=by simp [World.cell?,X7]
   have t4 : w7.cell? ⟨w6.heap.size,4,none⟩ = some (.string ⟨([110] : L).toArray⟩):=by simp [World.cell?,X7]
   have zf : ∀ o,w7.frozen? ⟨w.heap.size,o,none⟩ = false:=fun o => by simp [World.frozen?,Y0]
   have yf : ∀ o,w7.frozen? ⟨w4.heap.size,o,none⟩ = false:=fun o => by simp [World.frozen?,Y1]
   have ne1 : ¬ w.heap.size = w4.heap.size:=by omega
   have ne2 : ¬ w4.heap.size = w.heap.size:=by omega
   clear Y0 Y1 X7
   go_wp2_with (go_at_call 71;refine (tmust_yes _).mono ?_;rintro e w9 ⟨rfl,rfl⟩)
   refine bodyPost_ret (v:=.agg #[.int .i64 num,.int .i64 1,.int .i64 A,.int .i64 G]) (by simp [results,Tryz.results118,go_sem,z0,z1,z2,z3,zf,y0,y1,y2,y3,yf]) rfl ⟨rfl,⟨p3 + l3,hab,hp3,rfl,?_⟩,?_⟩
   · exact hr7.belowB (B:=r + 1) belr (by omega)
   · exact (by repeat' (first | exact hs17 | (with_reducible refine Bes.setCell_new ?_ ?_ _) | (show w.heap.size ≤ w4.heap.size;omega) | (show _ ≤ _;simp;done) | omega))
end Go.Proofs.YtinafodpgjbedaaGreatDoor
namespace Fo
def numF (n : Int) (l : List Sl) : Option Sl:=l.find? fun x => x.num == n
def insS : List Sl → Sl → List Sl
 | [],x => [x]
 | y :: l,x => if y.num < x.num then y :: insS l x else if y.num = x.num then y :: l else x :: y :: l
def mergeS (l : List Sl) : List Sl:=l.foldl insS []
def upS (l : List Sl) : Prop:=l.Pairwise fun a b => a.num < b.num
theorem insS_mem {l : List Sl} {x y : Sl} (h : y ∈ insS l x) : y ∈ l ∨ y = x:=by
 induction l with
 | nil => simpa [insS] using h
 | cons z l ih =>
   unfold insS at h
   split at h
   · rcases List.mem_cons.1 h with rfl | h
     · exact .inl (by simp)
     · rcases ih h with h | h
       · exact .inl (by simp [h])
       · exact .inr h
   · split at h
     · exact .inl h
     · rcases List.mem_cons.1 h with rfl | h
       · exact .inr rfl
       · exact .inl h
theorem insS_up {l : List Sl} {x : Sl} (h : upS l) : upS (insS l x):=by
 induction l with
 | nil => exact List.pairwise_singleton _ _
 | cons y l ih =>
   obtain ⟨h1,h2⟩:=List.pairwise_cons.1 h
   unfold insS
   split
   · rename_i hy
     refine List.pairwise_cons.2 ⟨fun z hz => ?_,ih h2⟩
     rcases insS_mem hz with hz | rfl
     · exact h1 z hz
     · exact hy
   · split
     · exact h
     · rename_i hy1 hy2
       refine List.pairwise_cons.2 ⟨fun z hz => ?_,h⟩
       rcases List.mem_cons.1 hz with rfl | hz
       · omega
       · have:=h1 z hz;omega
theorem numF_cons (n : Int) (x : Sl) (l : List Sl) : numF n (x :: l) = if x.num = n then some x else numF n l:=by
 unfold numF
 rw [List.find?_cons]
 by_cases h : x.num = n
 · simp [h]
 · rw [show (x.num == n) = false by simpa using h,if_neg h]
theorem numF_none_of_lt {n : Int} {l : List Sl} (h : ∀ x ∈ l,n < x.num) : numF n l = none:=by
 unfold numF
 rw [List.find?_eq_none]
 intro x hx
 have:=h x hx
 simp;omega
theorem insS_num {l : List Sl} (h : upS l) (x : Sl) (n : Int) : numF n (insS l x) = (numF n l).or (if x.num = n then some x else none):=by
 induction l with
 | nil => rw [insS,numF_cons];rfl
 | cons y l ih =>
   obtain ⟨h1,h2⟩:=List.pairwise_cons.1 h
   unfold insS
   split
   · rw [numF_cons,numF_cons,ih h2]
     split <;> rfl
   · split
     · rename_i hy1 hy2
       rw [numF_cons]
       by_cases hn : y.num = n
       · rw [if_pos hn];rfl
       · rw [if_neg hn,if_neg (by omega)];simp
     · rename_i hy1 hy2
       rw [numF_cons,numF_cons]
       by_cases hx : x.num = n
       · rw [if_pos hx,if_pos hx,if_neg (by omega),numF_none_of_lt (fun z hz => by have:=h1 z hz;omega)]
         rfl
       · rw [if_neg hx,if_neg hx,Option.or_none]
theorem mergeS_ok (l : List Sl) : upS (mergeS l) ∧ ∀ n,numF n (mergeS l) = numF n l:=by
 have key : ∀ (l acc : List Sl),upS acc → upS (l.foldl insS acc) ∧ ∀ n,numF n (l.foldl insS acc) = (numF n acc).or (numF n l):=by
   intro l
   induction l with
   | nil => intro acc h;exact ⟨h,fun n => by simp [numF]⟩
   | cons x l ih =>
     intro acc h
     obtain ⟨g1,g2⟩:=ih (insS acc x) (insS_up h)
     refine ⟨g1,fun n => ?_⟩
     rw [List.foldl_cons,g2,insS_num h,numF_cons]
     by_cases hx : x.num = n
     · rw [if_pos hx,if_pos hx];cases numF n acc <;> rfl
     · rw [if_neg hx,if_neg hx];cases numF n acc <;> rfl
 obtain ⟨h1,h2⟩:=key l [] .nil
 exact ⟨h1,fun n => by unfold mergeS;rw [h2];rfl⟩
theorem upS_ext : ∀ {a b : List Sl},upS a → upS b → (∀ n,numF n a = numF n b) → a = b
 | [],[],_,_,_ => rfl
 | [],y :: b,_,_,h => by have:=h y.num;rw [numF_cons,if_pos rfl] at this;cases this
 | x :: a,[],_,_,h => by have:=h x.num;rw [numF_cons,if_pos rfl] at this;cases this
 | x :: a,y :: b,ha,hb,h => by
   obtain ⟨a1,a2⟩:=List.pairwise_cons.1 ha
   obtain ⟨b1,b2⟩:=List.pairwise_cons.1 hb
   have hxy : x = y:=by
     have e1:=h x.num
     have e2:=h y.num
     rw [numF_cons,if_pos rfl,numF_cons] at e1
     rw [numF_cons,numF_cons,if_pos rfl] at e2
     by_cases hn : y.num = x.num
     · rw [if_pos hn] at e1;cases e1;rfl
     · rw [if_neg hn] at e1
       rw [if_neg (fun e => hn e.symm)] at e2
       have m1:=List.mem_of_find?_eq_some e1.symm
       have m2:=List.mem_of_find?_eq_some e2
       have:=b1 x m1
       have:=a1 y m2
       omega
   subst hxy
   congr 1
   refine upS_ext a2 b2 fun n => ?_
   have e:=h n
   rw [numF_cons,numF_cons] at e
   by_cases hn : x.num = n
   · rw [numF_none_of_lt (fun z hz => by have:=a1 z hz;omega),numF_none_of_lt (fun z hz => by have:=b1 z hz;omega)]
   · rw [if_neg hn,if_neg hn] at e;exact e
theorem numF_append (n : Int) (a b : List Sl) : numF n (a ++ b) = (numF n a).or (numF n b):=by unfold numF;rw [List.find?_append]
structure Sec where
 at' : Int
 slots : List Sl
 trail : Ob
 prev : Int
 hyb : Int
 own : Int
instance instInhabitedSl : Inhabited Sl:=⟨⟨0,0,0,0⟩⟩
def allS (l : List Sec) : List Sl:=l.flatMap (·.slots)
def addF (ps : List Sl) (x : Sl) : List Sl:=if (numF x.num ps).isSome then ps else ps ++ [x]
def firstsS (l : List Sl) : List Sl:=l.foldl addF []
def NodN (ps : List Sl) : Prop:=ps.Pairwise fun a b => a.num ≠ b.num
theorem numF_some {n : Int} {l : List Sl} {x : Sl} (h : numF n l = some x) : x ∈ l ∧ x.num = n:=by
 unfold numF at h
 exact ⟨List.mem_of_find?_eq_some h,by simpa using List.find?_some h⟩
theorem numF_none {n : Int} {l : List Sl} : numF n l = none ↔ ∀ x ∈ l,x.num ≠ n:=by
 unfold numF;rw [List.find?_eq_none];simp
theorem addF_num (ps : List Sl) (x : Sl) (n : Int) : numF n (addF ps x) = (numF n ps).or (if x.num = n then some x else none):=by
 unfold addF
 by_cases h : (numF x.num ps).isSome = true
 · rw [if_pos h]
   by_cases hn : x.num = n
   · subst hn
     obtain ⟨y,hy⟩:=Option.isSome_iff_exists.1 h
     rw [hy];rfl
   · rw [if_neg hn,Option.or_none]
 · rw [if_neg h,numF_append,numF_cons]
   rfl
theorem addF_nod {ps : List Sl} (h : NodN ps) (x : Sl) : NodN (addF ps x):=by
 unfold addF
 by_cases hx : (numF x.num ps).isSome = true
 · rw [if_pos hx];exact h
 · rw [if_neg hx]
   refine List.pairwise_append.2 ⟨h,List.pairwise_singleton _ _,fun a ha b hb => ?_⟩
   simp only [List.mem_singleton] at hb
   subst hb
   have : numF b.num ps = none:=by simpa using hx
   exact numF_none.1 this a ha
theorem foldF_ok : ∀ (l acc : List Sl),NodN acc → NodN (l.foldl addF acc) ∧ ∀ n,numF n (l.foldl addF acc) = (numF n acc).or (numF n l)
 | [],acc,h => ⟨h,fun n => by simp [numF]⟩
 | x :: l,acc,h => by
   obtain ⟨g1,g2⟩:=foldF_ok l (addF acc x) (addF_nod h x)
   refine ⟨g1,fun n => ?_⟩
   rw [List.foldl_cons,g2,addF_num,numF_cons]
   by_cases hx : x.num = n
   · rw [if_pos hx,if_pos hx];cases numF n acc <;> rfl
   · rw [if_neg hx,if_neg hx];cases numF n acc <;> rfl
theorem firstsS_ok (l : List Sl) : NodN (firstsS l) ∧ ∀ n,numF n (firstsS l) = numF n l:=by
 obtain ⟨h1,h2⟩:=foldF_ok l [] .nil
 exact ⟨h1,fun n => by unfold firstsS;rw [h2];rfl⟩
theorem addF_len (ps : List Sl) (x : Sl) : (addF ps x).length ≤ ps.length + 1:=by
 unfold addF;split
 · omega
 · simp
theorem foldF_len : ∀ (l acc : List Sl),(l.foldl addF acc).length ≤ acc.length + l.length
 | [],acc => Nat.le_refl _
 | x :: l,acc => by
   have h1:=foldF_len l (addF acc x)
   have h2:=addF_len acc x
   simp only [List.foldl_cons,List.length_cons];omega
theorem firstsS_len (l : List Sl) : (firstsS l).length ≤ l.length:=by have:=foldF_len l [];simpa [firstsS] using this
theorem nod_num {ps : List Sl} (h : NodN ps) {x : Sl} (hx : x ∈ ps) : numF x.num ps = some x:=by
 induction ps with
 | nil => cases hx
 | cons y l ih =>
   obtain ⟨h1,h2⟩:=List.pairwise_cons.1 h
   rw [numF_cons]
   rcases List.mem_cons.1 hx with rfl | hx
   · rw [if_pos rfl]
   · rw [if_neg (h1 x hx)];exact ih h2 hx
theorem nod_perm {ps qs : List Sl} (h : NodN ps) (hp : ps.Perm qs) : NodN qs:=hp.pairwise h (fun h => fun e => h e.symm)
theorem num_perm {ps qs : List Sl} (h : NodN ps) (hp : ps.Perm qs) (n : Int) : numF n qs = numF n ps:=by
 cases e : numF n ps with
 | none =>
   rw [numF_none] at e ⊢
   exact fun x hx => e x (hp.mem_iff.2 hx)
 | some x =>
   obtain ⟨h1,rfl⟩:=numF_some e
   exact nod_num (nod_perm h hp) (hp.mem_iff.1 h1)
theorem merge_sorted {l d : List Sl} (hp : d.Perm (firstsS l)) (hs : d.Pairwise fun a b => ¬ b.num < a.num) : d = mergeS l:=by
 obtain ⟨f1,f2⟩:=firstsS_ok l
 have hd:=nod_perm f1 hp.symm
 have hup : upS d:=(hs.and hd).imp fun {a b} h => by have:=h.1;have:=h.2;omega
 refine upS_ext hup (mergeS_ok l).1 fun n => ?_
 rw [num_perm f1 hp.symm,f2,(mergeS_ok l).2]
/-! ### As the document does it -/
def outN (x : Sl) : Bool:=decide (x.num < 0) || decide (8191 < x.num)
def midS (l : List Sl) (k : Nat) : List Sl:=(List.range k).filterMap fun (n : Nat) => numF (n : Int) l
def oddS (l : List Sl) : List Sl:=mergeS (l.filter outN)
def lowO (l : List Sl) : List Sl:=(oddS l).takeWhile fun x => decide (x.num < 0)
def highO (l : List Sl) : List Sl:=(oddS l).filter fun x => decide (8191 < x.num)
theorem num_filter {p : Sl → Bool} {n : Int} {l : List Sl} (h : ∀ x ∈ l,x.num = n → p x = true) : numF n (l.filter p) = numF n l:=by
 induction l with
 | nil => rfl
 | cons x l ih =>
   have ih:=ih fun y hy => h y (List.mem_cons_of_mem _ hy)
   rw [List.filter_cons,numF_cons]
   by_cases hx : x.num = n
   · rw [h x (by simp) hx,if_pos rfl,numF_cons,if_pos hx,if_pos hx]
   · rw [if_neg hx]
     split
     · rw [numF_cons,if_neg hx];exact ih
     · exact ih
theorem num_filter_no {p : Sl → Bool} {n : Int} {l : List Sl} (h : ∀ x ∈ l,x.num = n → p x = false) : numF n (l.filter p) = none:=by
 rw [numF_none]
 intro x hx e
 obtain ⟨h1,h2⟩:=List.mem_filter.1 hx
 rw [h x h1 e] at h2;cases h2
theorem take_neg {l : List Sl} (h : upS l) : (l.takeWhile fun x => decide (x.num < 0)) = l.filter fun x => decide (x.num < 0):=by
 induction l with
 | nil => rfl
 | cons x l ih =>
   obtain ⟨h1,h2⟩:=List.pairwise_cons.1 h
   rw [List.takeWhile_cons,List.filter_cons]
   by_cases hx : x.num < 0
   · rw [if_pos (by simpa using hx),if_pos (by simpa using hx),ih h2]
   · rw [if_neg (by simpa using hx),if_neg (by simpa using hx)]
     symm
     rw [List.filter_eq_nil_iff]
     intro y hy
     have:=h1 y hy
     simp;omega
theorem midS_up (l : List Sl) (k : Nat) : upS (midS l k) ∧ ∀ x ∈ midS l k,0 ≤ x.num ∧ x.num < k:=by
 induction k with
 | zero => exact ⟨.nil,fun x hx => by cases hx⟩
 | succ k ih =>
   have e : midS l (k + 1) = midS l k ++ (match numF (k : Int) l with | none => [] | some x => [x]):=by
     unfold midS
     rw [List.range_succ,List.filterMap_append]
     congr 1
     simp only [List.filterMap_cons,List.filterMap_nil]
     cases numF (k : Int) l <;> rfl
   rw [e]
   cases h : numF (k : Int) l with
   | none => simpa using ⟨ih.1,fun x hx => ⟨(ih.2 x hx).1,by have:=(ih.2 x hx).2;omega⟩⟩
   | some x =>
     obtain ⟨_,hx⟩:=numF_some h
     refine ⟨List.pairwise_append.2 ⟨ih.1,List.pairwise_singleton _ _,fun a ha b hb => ?_⟩,fun y hy => ?_⟩
     · simp only [List.mem_singleton] at hb
       subst hb
       have:=(ih.2 a ha).2;omega
     · rcases List.mem_append.1 hy with hy | hy
       · have:=ih.2 y hy;omega
       · simp only [List.mem_singleton] at hy
         subst hy;omega
theorem midS_succ (l : List Sl) (k : Nat) : midS l (k + 1) = midS l k ++ (match numF (k : Int) l with | none => [] | some x => [x]):=by
 unfold midS
 rw [List.range_succ,List.filterMap_append]
 congr 1
 simp only [List.filterMap_cons,List.filterMap_nil]
 cases numF (k : Int) l <;> rfl
theorem midS_num (l : List Sl) (k : Nat) (n : Int) : numF n (midS l k) = if 0 ≤ n ∧ n < k then numF n l else none:=by
 induction k with
 | zero => rw [if_neg (by omega)];rfl
 | succ k ih =>
   rw [midS_succ,numF_append,ih]
   by_cases h1 : 0 ≤ n ∧ n < k
   · rw [if_pos h1,if_pos (by omega)]
     cases h : numF n l with
     | some x => rfl
     | none =>
       have : n ≠ k:=by omega
       cases e : numF (k : Int) l with
       | none => rfl
       | some x =>
         obtain ⟨_,hx⟩:=numF_some e
         rw [numF_cons,if_neg (by omega)];rfl
   · rw [if_neg h1]
     by_cases h2 : n = k
     · subst h2
       rw [if_pos (by omega)]
       cases e : numF (k : Int) l with
       | none => rfl
       | some x =>
         obtain ⟨_,hx⟩:=numF_some e
         rw [numF_cons,if_pos hx];rfl
     · rw [if_neg (by omega)]
       cases e : numF (k : Int) l with
       | none => rfl
       | some x =>
         obtain ⟨_,hx⟩:=numF_some e
         rw [numF_cons,if_neg (by omega)];rfl
theorem merge_ref (l : List Sl) : lowO l ++ (midS l 8192 ++ highO l) = mergeS l:=by
 obtain ⟨o1,o2⟩:=mergeS_ok (l.filter outN)
 have o1' : upS (oddS l):=o1
 obtain ⟨m1,m2⟩:=midS_up l 8192
 have hlow : lowO l = (oddS l).filter fun x => decide (x.num < 0):=take_neg o1
 refine upS_ext ?_ (mergeS_ok l).1 fun n => ?_
 · rw [hlow]
   refine List.pairwise_append.2 ⟨o1'.filter _,List.pairwise_append.2 ⟨m1,o1'.filter _,fun a ha b hb => ?_⟩,fun a ha b hb => ?_⟩
   · have h1:=m2 a ha
     have h2:=(List.mem_filter.1 hb).2
     simp at h2;omega
   · have h1:=(List.mem_filter.1 ha).2
     simp at h1
     rcases List.mem_append.1 hb with hb | hb
     · have:=m2 b hb;omega
     · have h2:=(List.mem_filter.1 hb).2
       simp at h2;omega
 · rw [hlow,numF_append,numF_append,midS_num,(mergeS_ok l).2]
   have ho : ∀ n,(n < 0 ∨ 8191 < n) → numF n (oddS l) = numF n l:=fun n hn => by
     rw [show numF n (oddS l) = _ from o2 n]
     exact num_filter fun x _ e => by unfold outN;simp;omega
   unfold highO
   by_cases h1 : n < 0
   · rw [num_filter (fun x _ e => by simp;omega),ho n (.inl h1),if_neg (by omega),num_filter_no (fun x _ e => by simp;omega)]
     cases numF n l <;> rfl
   · rw [num_filter_no (fun x _ e => by simp;omega)]
     by_cases h2 : n ≤ 8191
     · rw [if_pos (by omega),num_filter_no (fun x _ e => by simp;omega)]
       cases numF n l <;> rfl
     · rw [if_neg (by omega),num_filter (fun x _ e => by simp;omega),ho n (.inr (by omega))]
       rfl
/-! ### Sections of a list -/
end Fo
