/- Parts of the proof: TokLaws Read1 ParLaws SortL Valid BackA BackB Wh WhA WhD WhF SlM TdA MpS Read2 Ref. -/
import Derived.Test.YtinafodpgjbedaaGreatDoorPda
import Derived.Test.YtinafodpgjbedaaGreatDoorPdLexNext
import Derived.Deep.RegionHeld3
import Derived.Deep.DeepCutAuto
import Derived.Maps.OwnSet
import Derived.OwnWalk
set_option linter.all false
set_option maxRecDepth 100000
set_option maxHeartbeats 8000000
namespace Fo
theorem skipN_le' (b : Bool) (l : L) : skipN b l ≤ l.length:=by
 induction l generalizing b with
 | nil => cases b <;> simp [skipN]
 | cons c l ih =>
   cases b <;> simp only [skipN,List.length_cons]
   · have h1:=ih true;have h2:=ih false
     split
     · omega
     · split <;> omega
   · have:=ih (!eol c);omega
theorem regN_le' (l : L) : regN l ≤ l.length:=by
 induction l with
 | nil => simp [regN]
 | cons c l ih => simp only [regN,List.length_cons];split <;> omega
theorem textS_len {acc : L} {n op k : Nat} {l : L} {x : L} {m : Nat} (h : textS acc n op k l = .good (x,m)) : n + 1 ≤ m ∧ m ≤ n + l.length:=by
 induction l generalizing acc n op k with
 | nil => simp [textS] at h
 | cons c l ih =>
   cases k with
   | succ k => rw [textS] at h;have:=ih h;simp;omega
   | zero =>
     rw [textS] at h
     simp only [List.length_cons]
     split at h
     · have:=ih h;omega
     · split at h
       · split at h
         · cases h
         · have:=ih h;omega
       · split at h
         · have:=ih h;omega
         · split at h
           · split at h
             · cases h;omega
             · have:=ih h;omega
           · have:=ih h;omega
theorem hexS_len {acc : L} {n : Nat} {hf : Int} {l : L} {x : L} {m : Nat} (h : hexS acc n hf l = .good (x,m)) : n + 1 ≤ m ∧ m ≤ n + l.length:=by
 induction l generalizing acc n hf with
 | nil => simp [hexS] at h
 | cons c l ih =>
   rw [hexS] at h
   simp only [List.length_cons]
   split at h
   · simp only [Res.good.injEq,Prod.mk.injEq] at h;omega
   · split at h
     · have:=ih h;omega
     · split at h
       · cases h
       · split at h
         · have:=ih h;omega
         · have:=ih h;omega
theorem told_good {k : Int} {n : Nat} {x : L} {b : Nat} {t : Tok} (h : told k n x b = .good t) : t = ⟨k,n,0,x⟩ ∧ x.length ≤ b:=by
 unfold told at h;split at h
 · cases h
 · cases h;exact ⟨rfl,by omega⟩
theorem strOf_good {r : Res (L × Nat)} {t : Tok} (h : strOf r = .good t) : ∃ x m,r = .good (x,m) ∧ t = ⟨3,m + 1,0,x⟩ ∧ x.length ≤ 32767:=by
 cases r with
 | bad e => cases h
 | good x => obtain ⟨h1,h2⟩:=told_good h;exact ⟨x.1,x.2,rfl,h1,h2⟩
theorem nameOf_good {n : Nat} {r : Res L} {t : Tok} (h : nameOf n r = .good t) : ∃ x,r = .good x ∧ t = ⟨4,n + 1,0,x⟩ ∧ x.length ≤ 127:=by
 cases r with
 | bad e => cases h
 | good x => obtain ⟨h1,h2⟩:=told_good h;exact ⟨x,rfl,h1,h2⟩
theorem wordT_good {r : L} {t : Tok} (h : wordT r = .good t) : t.len = r.length ∧ (t.kind = 1 ∨ t.kind = 2 ∨ t.kind = 5):=by
 unfold wordT at h
 split at h
 · split at h
   · cases h
   · cases h;simp
 · split at h
   · split at h
     · cases h;simp
     · cases h
     · obtain ⟨rfl,_⟩:=told_good h;simp
   · obtain ⟨rfl,_⟩:=told_good h;simp
theorem tokT_good {l : L} {t : Tok} (h : tokT l = .good t) : t.len ≤ l.length ∧ 1 ≤ t.kind ∧ t.kind ≤ 6:=by
 cases l with
 | nil => cases h
 | cons c l =>
   unfold tokT at h
   dsimp only at h
   simp only [List.length_cons]
   split at h
   · cases h;simp
   · split at h
     · split at h
       · rename_i h2
         cases h
         cases l with
         | nil => simp at h2
         | cons => simp
       · obtain ⟨x,m,h1,rfl,_⟩:=strOf_good h
         have:=hexS_len h1;simp;omega
     · split at h
       · split at h
         · rename_i h2
           cases h
           cases l with
           | nil => simp at h2
           | cons => simp
         · cases h
       · split at h
         · obtain ⟨x,h1,rfl,_⟩:=nameOf_good h
           have:=regN_le' l;simp;omega
         · split at h
           · obtain ⟨x,m,h1,rfl,_⟩:=strOf_good h
             have:=textS_len h1;simp;omega
           · split at h
             · cases h
             · obtain ⟨h1,h2⟩:=wordT_good h
               have : ((c :: l).take (regN (c :: l))).length ≤ (c :: l).length:=(List.take_sublist _ _).length_le
               simp only [List.length_cons] at this
               rw [h1];omega
theorem nextT_good {l : L} {t : Tok} (h : (nextT l).2 = .good t) : (nextT l).1 + t.len ≤ l.length ∧ 0 ≤ t.kind ∧ t.kind ≤ 6 ∧ (t.kind = 0 → t = ⟨0,0,0,[]⟩):=by
 unfold nextT at *
 simp only at *
 have hs:=skipN_le' false l
 split at h
 · cases h;simp;exact hs
 · obtain ⟨h1,h2,h3⟩:=tokT_good h
   simp only [List.length_drop] at h1
   exact ⟨by omega,by omega,h3,by omega⟩
theorem nextS_good {l : L} {t : Tok} {r : L} (h : nextS l = .good (t,r)) : (nextT l).2 = .good t ∧ t.kind ≠ 0 ∧ r = l.drop ((nextT l).1 + t.len):=by
 unfold nextS at h
 split at h
 · cases h
 · rename_i t' ht
   split at h
   · cases h
   · cases h;exact ⟨ht,by assumption,rfl⟩
theorem textS_bad {acc : L} {n op k : Nat} {l : L} {e : Int} (h : textS acc n op k l = .bad e) : e = 4:=by
 induction l generalizing acc n op k with
 | nil => cases k <;> simp [textS] at h <;> exact h.symm
 | cons c l ih =>
   cases k with
   | succ k => rw [textS] at h;exact ih h
   | zero =>
     rw [textS] at h
     split at h
     · exact ih h
     · split at h
       · split at h
         · cases h;rfl
         · exact ih h
       · split at h
         · exact ih h
         · split at h
           · split at h
             · cases h
             · exact ih h
           · exact ih h
theorem hexS_bad' {acc : L} {n : Nat} {hf : Int} {l : L} {e : Int} (h : hexS acc n hf l = .bad e) : e = 3 ∨ e = 4:=by
 induction l generalizing acc n hf with
 | nil => simp [hexS] at h;omega
 | cons c l ih =>
   rw [hexS] at h
   split at h
   · cases h
   · split at h
     · exact ih h
     · split at h
       · cases h;simp
       · split at h
         · exact ih h
         · exact ih h
theorem nameS_bad' {acc : L} {k : Nat} {l : L} {e : Int} (h : nameS acc k l = .bad e) : e = 3:=by
 induction l generalizing acc k with
 | nil => cases k <;> simp [nameS] at h
 | cons c l ih =>
   cases k with
   | succ k => rw [nameS] at h;exact ih h
   | zero =>
     by_cases hc : c = 35
     · subst hc
       cases l with
       | nil => simp [nameS] at h;exact h.symm
       | cons a l =>
         cases l with
         | nil => simp [nameS] at h;exact h.symm
         | cons b l =>
           simp only [nameS,beq_self_eq_true,if_true] at h
           split at h
           · cases h;rfl
           · exact ih (k:=2) (by rw [nameS,nameS];exact h)
     · have hc2 : (c == 35) = false:=by simpa using hc
       simp only [nameS,hc2,Bool.false_eq_true,if_false] at h
       exact ih h
theorem told_bad {k : Int} {n : Nat} {x : L} {b : Nat} {e : Int} (h : told k n x b = .bad e) : e = 5:=by
 unfold told at h;split at h
 · cases h;rfl
 · cases h
theorem wordT_bad {r : L} {e : Int} (h : wordT r = .bad e) : 2 ≤ e ∧ e ≤ 5:=by
 unfold wordT at h
 split at h
 · split at h
   · rename_i e' he
     cases h
     unfold wholeV at he
     split at he
     · cases he;omega
     · cases he
   · cases h
 · split at h
   · split at h
     · cases h
     · cases h;omega
     · have:=told_bad h;omega
   · have:=told_bad h;omega
theorem strOf_bad {r : Res (L × Nat)} {e : Int} (h : strOf r = .bad e) (hr : ∀ e,r = .bad e → 2 ≤ e ∧ e ≤ 5) : 2 ≤ e ∧ e ≤ 5:=by
 cases r with
 | bad e' => cases h;exact hr _ rfl
 | good x => have:=told_bad h;omega
theorem tokT_bad {l : L} {e : Int} (hl : l ≠ []) (h : tokT l = .bad e) : 2 ≤ e ∧ e ≤ 5:=by
 cases l with
 | nil => exact absurd rfl hl
 | cons c l =>
   unfold tokT at h
   dsimp only at h
   split at h
   · cases h
   · split at h
     · split at h
       · cases h
       · exact strOf_bad h (fun e he => by have:=hexS_bad' he;omega)
     · split at h
       · split at h
         · cases h
         · cases h;omega
       · split at h
         · unfold nameT at h
           cases hn : nameS [] 0 (l.take (regN l)) with
           | bad e' => rw [hn] at h;cases h;have:=nameS_bad' hn;omega
           | good x => rw [hn] at h;have:=told_bad h;omega
         · split at h
           · exact strOf_bad h (fun e he => by have:=textS_bad he;omega)
           · split at h
             · cases h;omega
             · exact wordT_bad h
theorem nextT_bad {l : L} {e : Int} (h : (nextT l).2 = .bad e) : 2 ≤ e ∧ e ≤ 5:=by
 unfold nextT at h
 simp only at h
 split at h
 · cases h
 · exact tokT_bad (by assumption) h
theorem nextS_bad {l : L} {e : Int} (h : nextS l = .bad e) : (nextT l).2 = .bad e ∨ (e = 4 ∧ (nextT l).2 = .good ⟨0,0,0,[]⟩):=by
 unfold nextS at h
 split at h
 · rename_i e' he;cases h;exact .inl he
 · rename_i t ht
   split at h
   · rename_i hk
     cases h
     have:=(nextT_good ht).2.2.2 hk
     subst this
     exact .inr ⟨rfl,ht⟩
   · cases h
end Fo
namespace Go.Proofs.YtinafodpgjbedaaGreatDoor
open Go.RowKit Fo
def tkV (t : Tok) (p : Nat) : Value:=.agg #[.int .i64 t.kind,.int .i64 p,.int .i64 (p + t.len : Nat),.int .i64 t.n,.string ⟨t.s.toArray⟩]
theorem lexnext_bad (s : ByteArray) (a : Nat) (k : Int) (h : (nextT (s.data.toList.drop a)).2 = .bad k) (ha : a ≤ s.size) (hs : s.size ≤ 140737488355327) (m : Int) (w : World) (hm : MaxW w m) :
   Calls Tryz.prog 79 #[.string s,.int .i64 a] w fun e w' => e = .returned (.tuple #[.agg #[.int .i64 0,.int .i64 0,.int .i64 0,.int .i64 0,.string ⟨#[]⟩],.int .i64 k]) ∧ Below w.heap.size w w' :=
 tok_bad h (next_in s a ha hs m w hm)
theorem lexnext_good (s : ByteArray) (a p : Nat) (t : Tok) (h : (nextT (s.data.toList.drop a)).2 = .good t) (hp : a + (nextT (s.data.toList.drop a)).1 = p) (ha : a ≤ s.size) (hs : s.size ≤ 140737488355327) (m : Int) (w : World) (hm : MaxW w m) :
   Calls Tryz.prog 79 #[.string s,.int .i64 a] w fun e w' => e = .returned (.tuple #[.agg #[.int .i64 t.kind,.int .i64 p,.int .i64 ((p + t.len : Nat) : Int),.int .i64 t.n,.string ⟨t.s.toArray⟩],.int .i64 0]) ∧ Below w.heap.size w w':=by
 have:=tok_good h (next_in s a ha hs m w hm)
 rw [hp] at this;exact this
theorem rnext_good (r : Nat) (s : ByteArray) (a p : Nat) (t : Tok) (ha : a ≤ s.size) (hs : s.size ≤ 140737488355327) (m : Int) (w : World) (hm : MaxW w m) (hr : RdAt w r s a)
   (h : (nextT (s.data.toList.drop a)).2 = .good t) (hk : t.kind ≠ 0) (hp : a + (nextT (s.data.toList.drop a)).1 = p) :
   Calls Tryz.prog 152 #[.pointer (some ⟨r,0,none⟩)] w fun e w' => e = .returned (tkV t p) ∧ RdAt w' r s (p + t.len) ∧ Bes r w w':=by
 obtain ⟨q,hq⟩ : ∃ q,p + t.len = q:=⟨_,rfl⟩
 have HN:=Lh (fun W hW => lexnext_good s a p t h hp ha hs m W hW)
 simp only [hq] at HN
 have hk1 : (t.kind == 0) = false:=by simpa using hk
 have hc0:=hr.cell0
 have hc1:=hr.cell1
 have hf0:=hr.frozen 1
 have hlt:=hr.lt
 have hA : ∀ W,Below w.heap.size w W → MaxW W m:=fun W hb => hm.below hb
 have HA:=Lh hA
 clear h hp hA hk
 go_enter Tryz.func152,Tryz.ntmps152
 go_upto_region 1 with fail
 go_cut [3,4] (fun s3 s4 wx => ∃ g : Nat,s3 = .pointer (some ⟨g,0,none⟩) ∧ s4 = .int .i64 0 ∧ wx.cell? ⟨g,0,none⟩ = some (.int .i64 t.kind) ∧ wx.cell? ⟨g,1,none⟩ = some (.int .i64 p) ∧ wx.cell? ⟨g,2,none⟩ = some (.int .i64 q) ∧ wx.cell? ⟨g,3,none⟩ = some (.int .i64 t.n) ∧ wx.cell? ⟨g,4,none⟩ = some (.string ⟨t.s.toArray⟩) ∧ w.heap.size < g ∧ Below (w.heap.size + 1) (w.alloc (.cells #[.int .i64 0,.int .i64 0,.int .i64 0,.int .i64 0,.string ⟨#[]⟩] 96)) wx)
 case first =>
   have ne1 : ¬ r = w.heap.size + 1:=by omega
   have ne2 : ¬ w.heap.size + 1 = r:=by omega
   go_region_held3 (fun w' => w'.cell? ⟨r,0,none⟩ = some (.string s) ∧ w'.cell? ⟨r,1,none⟩ = some (.int .i64 a)) (go_keep) ((go_at_call 79;refine (HN.out _ (HA.out _ bel)).mono ?_;rintro e w1 ⟨rfl,hb⟩;obtain ⟨hc,hf⟩:=bcell hb;have hz:=hb.size;simp at hz;have hbw : Below w.heap.size w w1:=bel;have k0:=(hbw.cell (p:=⟨r,0,none⟩) hlt).trans hc0;have k1:=(hbw.cell (p:=⟨r,1,none⟩) hlt).trans hc1))
   all_goals go_wp2_with fail
   all_goals go_meet
   all_goals first
     | exact ⟨w1.heap.size,rfl,rfl,by simp [go_sem],by simp [go_sem],by simp [go_sem],by simp [go_sem],by simp [go_sem],by omega,belS⟩
     | exact ⟨w.heap.size + 1,rfl,rfl,by simp [go_sem,hc,hf],by simp [go_sem,hc,hf],by simp [go_sem,hc,hf],by simp [go_sem,hc,hf],by simp [go_sem,hc,hf],by omega,belS⟩
 case rest =>
   obtain ⟨g,rfl,rfl,g0,g1,g2,g3,g4,hg,hb⟩:=hcut
   obtain ⟨hc,hf⟩:=bcellB hb
   have hrw : RdAt wc r s a:=(hr.below (w':=w.alloc (.cells #[.int .i64 0,.int .i64 0,.int .i64 0,.int .i64 0,.string ⟨#[]⟩] 96)) bel).belowB hb (by omega)
   have k1:=hrw.cell1
   have kf:=hrw.frozen
   have hgr : ¬ g = r:=by omega
   have hrg : ¬ r = g:=by omega
   have hrz : ¬ r = w.heap.size:=by omega
   have hzr : ¬ w.heap.size = r:=by omega
   go_wp2
   refine bodyPost_ret (v:=tkV t p) (by simp [results,Tryz.results152,go_sem,hc,hf,tkV,hq]) rfl ⟨rfl,?_,?_⟩
   · rw [hq]
     have hW:=hrw.set (b:=q)
     exact hW.belowB (B:=r + 1) belr (by omega)
   · exact (by repeat' (first | (with_reducible exact Bes.refl _ _) | (with_reducible refine Bes.drew ?_) | (with_reducible refine Bes.drewN ?_ _) | (with_reducible refine Bes.alloc ?_ _) | (with_reducible refine Bes.setCell ?_ _ _) | (with_reducible refine Bes.setCell_new ?_ ?_ _) | (with_reducible refine Bes.belowB ?_ hb5 ?_) | (with_reducible refine Bes.belowB ?_ hb4 ?_) | (with_reducible refine Bes.belowB ?_ hb3 ?_) | (with_reducible refine Bes.belowB ?_ hb2 ?_) | (with_reducible refine Bes.belowB ?_ hb1 ?_) | (with_reducible refine Bes.belowB ?_ hbr ?_) | (with_reducible refine Bes.belowB ?_ hb ?_) | (with_reducible refine Bes.trans ?_ hs5) | (with_reducible refine Bes.trans ?_ hs4) | (with_reducible refine Bes.trans ?_ hs3) | (with_reducible refine Bes.trans ?_ hs2) | (with_reducible refine Bes.trans ?_ hs1) | (show _ ≤ _;simp;done) | (show _ ≤ _;simp;omega) | omega))
theorem rnext_lexbad (r : Nat) (s : ByteArray) (a : Nat) (k : Int) (ha : a ≤ s.size) (hs : s.size ≤ 140737488355327) (m : Int) (w : World) (hm : MaxW w m) (hr : RdAt w r s a)
   (h : (nextT (s.data.toList.drop a)).2 = .bad k) :
   Calls Tryz.prog 152 #[.pointer (some ⟨r,0,none⟩)] w fun e w' => e = .panicked [{ v:=.iface 245 (.int .i64 k),recovered:=false }] ∧ Bes r w w':=by
 have HN:=Lh (fun W hW => lexnext_bad s a k h ha hs m W hW)
 have hk1 : (k != 0) = true:=by have:=nextT_bad h;simp;omega
 have hc0:=hr.cell0
 have hc1:=hr.cell1
 have hf0:=hr.frozen 1
 have hlt:=hr.lt
 have hA : ∀ W,Below w.heap.size w W → MaxW W m:=fun W hb => hm.below hb
 have HA:=Lh hA
 clear h hA
 go_enter Tryz.func152,Tryz.ntmps152
 go_upto_region 1 with fail
 go_cut [3,4] (fun s3 s4 wx => ∃ g : Nat,s3 = .pointer (some ⟨g,0,none⟩) ∧ s4 = .int .i64 k ∧ Below (w.heap.size + 1) (w.alloc (.cells #[.int .i64 0,.int .i64 0,.int .i64 0,.int .i64 0,.string ⟨#[]⟩] 96)) wx)
 case first =>
   have ne1 : ¬ r = w.heap.size + 1:=by omega
   have ne2 : ¬ w.heap.size + 1 = r:=by omega
   go_region_held3 (fun w' => w'.cell? ⟨r,0,none⟩ = some (.string s) ∧ w'.cell? ⟨r,1,none⟩ = some (.int .i64 a)) (go_keep) ((go_at_call 79;refine (HN.out _ (HA.out _ bel)).mono ?_;rintro e w1 ⟨rfl,hb⟩;obtain ⟨hc,hf⟩:=bcell hb;have hz:=hb.size;simp at hz;have hbw : Below w.heap.size w w1:=bel;have k0:=(hbw.cell (p:=⟨r,0,none⟩) hlt).trans hc0;have k1:=(hbw.cell (p:=⟨r,1,none⟩) hlt).trans hc1))
   all_goals go_wp2_with fail
   all_goals go_meet
   all_goals first
     | exact ⟨w1.heap.size,rfl,rfl,belS⟩
     | exact ⟨w.heap.size + 1,rfl,rfl,belS⟩
 case rest =>
   obtain ⟨g,rfl,rfl,hb⟩:=hcut
   go_wp2
   exact ⟨rfl,rfl,(by repeat' (first | (with_reducible exact Bes.refl _ _) | (with_reducible refine Bes.drew ?_) | (with_reducible refine Bes.drewN ?_ _) | (with_reducible refine Bes.alloc ?_ _) | (with_reducible refine Bes.setCell ?_ _ _) | (with_reducible refine Bes.setCell_new ?_ ?_ _) | (with_reducible refine Bes.belowB ?_ hb5 ?_) | (with_reducible refine Bes.belowB ?_ hb4 ?_) | (with_reducible refine Bes.belowB ?_ hb3 ?_) | (with_reducible refine Bes.belowB ?_ hb2 ?_) | (with_reducible refine Bes.belowB ?_ hb1 ?_) | (with_reducible refine Bes.belowB ?_ hbr ?_) | (with_reducible refine Bes.belowB ?_ hb ?_) | (with_reducible refine Bes.trans ?_ hs5) | (with_reducible refine Bes.trans ?_ hs4) | (with_reducible refine Bes.trans ?_ hs3) | (with_reducible refine Bes.trans ?_ hs2) | (with_reducible refine Bes.trans ?_ hs1) | (show _ ≤ _;simp;done) | (show _ ≤ _;simp;omega) | omega))⟩
theorem rnext_end (r : Nat) (s : ByteArray) (a p : Nat) (t : Tok) (ha : a ≤ s.size) (hs : s.size ≤ 140737488355327) (m : Int) (w : World) (hm : MaxW w m) (hr : RdAt w r s a)
   (h : (nextT (s.data.toList.drop a)).2 = .good t) (hk : t.kind = 0) (hp : a + (nextT (s.data.toList.drop a)).1 = p) :
   Calls Tryz.prog 152 #[.pointer (some ⟨r,0,none⟩)] w fun e w' => e = .panicked [{ v:=.iface 245 (.int .i64 4),recovered:=false }] ∧ Bes r w w':=by
 obtain ⟨q,hq⟩ : ∃ q,p + t.len = q:=⟨_,rfl⟩
 have HN:=Lh (fun W hW => lexnext_good s a p t h hp ha hs m W hW)
 simp only [hq] at HN
 have hk1 : (t.kind == 0) = true:=by simpa using hk
 have hc0:=hr.cell0
 have hc1:=hr.cell1
 have hf0:=hr.frozen 1
 have hlt:=hr.lt
 have hA : ∀ W,Below w.heap.size w W → MaxW W m:=fun W hb => hm.below hb
 have HA:=Lh hA
 clear h hp hA hk
 go_enter Tryz.func152,Tryz.ntmps152
 go_upto_region 1 with fail
 go_cut [3,4] (fun s3 s4 wx => ∃ g : Nat,s3 = .pointer (some ⟨g,0,none⟩) ∧ s4 = .int .i64 0 ∧ wx.cell? ⟨g,0,none⟩ = some (.int .i64 t.kind) ∧ wx.cell? ⟨g,1,none⟩ = some (.int .i64 p) ∧ wx.cell? ⟨g,2,none⟩ = some (.int .i64 q) ∧ wx.cell? ⟨g,3,none⟩ = some (.int .i64 t.n) ∧ wx.cell? ⟨g,4,none⟩ = some (.string ⟨t.s.toArray⟩) ∧ w.heap.size < g ∧ Below (w.heap.size + 1) (w.alloc (.cells #[.int .i64 0,.int .i64 0,.int .i64 0,.int .i64 0,.string ⟨#[]⟩] 96)) wx)
 case first =>
   have ne1 : ¬ r = w.heap.size + 1:=by omega
   have ne2 : ¬ w.heap.size + 1 = r:=by omega
   go_region_held3 (fun w' => w'.cell? ⟨r,0,none⟩ = some (.string s) ∧ w'.cell? ⟨r,1,none⟩ = some (.int .i64 a)) (go_keep) ((go_at_call 79;refine (HN.out _ (HA.out _ bel)).mono ?_;rintro e w1 ⟨rfl,hb⟩;obtain ⟨hc,hf⟩:=bcell hb;have hz:=hb.size;simp at hz;have hbw : Below w.heap.size w w1:=bel;have k0:=(hbw.cell (p:=⟨r,0,none⟩) hlt).trans hc0;have k1:=(hbw.cell (p:=⟨r,1,none⟩) hlt).trans hc1))
   all_goals go_wp2_with fail
   all_goals go_meet
   all_goals first
     | exact ⟨w1.heap.size,rfl,rfl,by simp [go_sem],by simp [go_sem],by simp [go_sem],by simp [go_sem],by simp [go_sem],by omega,belS⟩
     | exact ⟨w.heap.size + 1,rfl,rfl,by simp [go_sem,hc,hf],by simp [go_sem,hc,hf],by simp [go_sem,hc,hf],by simp [go_sem,hc,hf],by simp [go_sem,hc,hf],by omega,belS⟩
 case rest =>
   obtain ⟨g,rfl,rfl,g0,g1,g2,g3,g4,hg,hb⟩:=hcut
   go_wp2
   exact ⟨rfl,rfl,(by repeat' (first | (with_reducible exact Bes.refl _ _) | (with_reducible refine Bes.drew ?_) | (with_reducible refine Bes.drewN ?_ _) | (with_reducible refine Bes.alloc ?_ _) | (with_reducible refine Bes.setCell ?_ _ _) | (with_reducible refine Bes.setCell_new ?_ ?_ _) | (with_reducible refine Bes.belowB ?_ hb5 ?_) | (with_reducible refine Bes.belowB ?_ hb4 ?_) | (with_reducible refine Bes.belowB ?_ hb3 ?_) | (with_reducible refine Bes.belowB ?_ hb2 ?_) | (with_reducible refine Bes.belowB ?_ hb1 ?_) | (with_reducible refine Bes.belowB ?_ hbr ?_) | (with_reducible refine Bes.belowB ?_ hb ?_) | (with_reducible refine Bes.trans ?_ hs5) | (with_reducible refine Bes.trans ?_ hs4) | (with_reducible refine Bes.trans ?_ hs3) | (with_reducible refine Bes.trans ?_ hs2) | (with_reducible refine Bes.trans ?_ hs1) | (show _ ≤ _;simp;done) | (show _ ≤ _;simp;omega) | omega))⟩
theorem rnext_bad (r : Nat) (s : ByteArray) (a : Nat) (k : Int) (ha : a ≤ s.size) (hs : s.size ≤ 140737488355327) (m : Int) (w : World) (hm : MaxW w m) (hr : RdAt w r s a)
   (h : nextS (s.data.toList.drop a) = .bad k) :
   Calls Tryz.prog 152 #[.pointer (some ⟨r,0,none⟩)] w fun e w' => e = .panicked [{ v:=.iface 245 (.int .i64 k),recovered:=false }] ∧ Bes r w w':=by
 rcases nextS_bad h with h2 | ⟨h1,h2⟩
 · exact rnext_lexbad r s a k ha hs m w hm hr h2
 · subst h1;exact rnext_end r s a _ _ ha hs m w hm hr h2 rfl rfl
end Go.Proofs.YtinafodpgjbedaaGreatDoor
namespace Fo
theorem wordT_len {r : L} {t : Tok} (hr : r ≠ []) (h : wordT r = .good t) : 1 ≤ t.len:=by
 have:=(wordT_good h).1
 have:=List.length_pos_iff.2 hr
 omega
theorem regN_pos {c : UInt8} {l : L} (h : regular c = true) : 1 ≤ regN (c :: l):=by simp [regN,h]
theorem tokT_pos {l : L} {t : Tok} (hl : ∀ c r,l = c :: r → white c = false ∧ c ≠ 37) (h : tokT l = .good t) : 1 ≤ t.len:=by
 cases l with
 | nil => cases h
 | cons c l =>
   obtain ⟨hw,h37⟩:=hl c l rfl
   unfold tokT at h
   dsimp only at h
   split at h
   · cases h;simp
   · rename_i n1
     split at h
     · split at h
       · cases h;simp
       · obtain ⟨x,m,h1,rfl,_⟩:=strOf_good h;simp
     · rename_i n2
       split at h
       · split at h
         · cases h;simp
         · cases h
       · rename_i n3
         split at h
         · obtain ⟨x,h1,rfl,_⟩:=nameOf_good h;simp
         · rename_i n4
           split at h
           · obtain ⟨x,m,h1,rfl,_⟩:=strOf_good h;simp
           · rename_i n5
             split at h
             · cases h
             · rename_i n6
               have hreg : regular c = true:=by
                 unfold regular
                 rw [hw]
                 simp only [Bool.not_false,Bool.true_and,Bool.not_eq_true',delim]
                 simp at n1 n2 n3 n4 n5 n6
                 simp [n1,n2,n3,n4,n5,n6,h37]
               have hp:=regN_pos (l:=l) hreg
               refine wordT_len ?_ h
               intro h0
               have:=congrArg List.length h0
               simp at this
               omega
theorem skipN_stop (b : Bool) (l : L) : ∀ c r,l.drop (skipN b l) = c :: r → white c = false ∧ c ≠ 37:=by
 induction l generalizing b with
 | nil => cases b <;> simp [skipN]
 | cons c l ih =>
   cases b
   · simp only [skipN]
     split
     · rw [List.drop_succ_cons];exact ih true
     · rename_i h37
       split
       · rw [List.drop_succ_cons];exact ih false
       · rename_i hw
         intro c' r h
         simp only [List.drop_zero,List.cons.injEq] at h
         rw [← h.1]
         exact ⟨by simpa using hw,by simpa using h37⟩
   · simp only [skipN]
     rw [List.drop_succ_cons];exact ih _
theorem nextS_shorter {l : L} {t : Tok} {r : L} (h : nextS l = .good (t,r)) : r.length < l.length ∧ 1 ≤ t.len:=by
 obtain ⟨h1,h2,rfl⟩:=nextS_good h
 have h3:=(nextT_good h1).1
 have h4 : 1 ≤ t.len:=by
   unfold nextT at h1
   simp only at h1
   split at h1
   · cases h1;exact absurd rfl h2
   · exact tokT_pos (skipN_stop false l) h1
 rw [List.length_drop]
 omega
theorem refS_shorter {t : Tok} {l : L} {g : Int} {r : L} (h : refS t l = some (g,r)) : r.length ≤ l.length:=by
 unfold refS at h
 split at h
 · cases h
 · split at h
   · cases h
   · split at h
     · cases h
     · split at h
       · cases h
       · split at h
         · simp only [Option.some.injEq,Prod.mk.injEq] at h
           rw [← h.2,List.length_drop,List.length_drop];omega
         · cases h
theorem arrS_shorter {f : Tok → L → Res (Ob × L)} (hf : ∀ t l o r, f t l = .good (o, r) → r.length ≤ l.length) {d : Nat} :
   ∀ {m : Nat} {l : L} {acc ks : List Ob} {r : L},arrS f d m l acc = .good (ks,r) → r.length ≤ l.length
 | 0,_,_,_,_,h => by cases h
 | m + 1,l,acc,ks,r,h => by
   rw [arrS] at h
   split at h
   · cases h
   · rename_i t r1 h1
     have:=(nextS_shorter h1).1
     split at h
     · cases h;omega
     · split at h
       · cases h
       · split at h
         · cases h
         · rename_i o r2 h2
           have h3:=hf _ _ _ _ h2
           have:=arrS_shorter hf h
           omega
theorem dictS_shorter {f : Tok → L → Res (Ob × L)} (hf : ∀ t l o r, f t l = .good (o, r) → r.length ≤ l.length) :
   ∀ {m : Nat} {l : L} {acc ks : List (L × Ob)} {r : L},dictS f m l acc = .good (ks,r) → r.length ≤ l.length
 | 0,_,_,_,_,h => by cases h
 | m + 1,l,acc,ks,r,h => by
   rw [dictS] at h
   split at h
   · cases h
   · rename_i t r1 h1
     have:=(nextS_shorter h1).1
     split at h
     · cases h;omega
     · split at h
       · cases h
       · split at h
         · cases h
         · split at h
           · cases h
           · split at h
             · cases h
             · rename_i t2 r2 h2
               have:=(nextS_shorter h2).1
               split at h
               · cases h
               · rename_i o r3 h3
                 have:=hf _ _ _ _ h3
                 have:=dictS_shorter hf h
                 omega
theorem objS_shorter : ∀ (d : Nat) (t : Tok) (l : L) (o : Ob) (r : L),objS d t l = .good (o,r) → r.length ≤ l.length
 | 0,t,l,o,r,h => by
   rw [objS] at h;split at h <;> cases h
 | d + 1,t,l,o,r,h => by
   rw [objS] at h
   split at h
   · split at h
     · split at h
       · rename_i g r' h2
         cases h;exact refS_shorter h2
       · cases h;exact Nat.le_refl _
     · split at h
       · cases h;exact Nat.le_refl _
       · split at h
         · cases h;exact Nat.le_refl _
         · split at h
           · cases h;exact Nat.le_refl _
           · split at h
             · simp only [Res.good.injEq,Prod.mk.injEq] at h;rw [h.2];exact Nat.le_refl _
             · split at h
               · split at h
                 · cases h
                 · rename_i h2;cases h;exact arrS_shorter (objS_shorter d) h2
               · split at h
                 · cases h
                 · rename_i h2;cases h;exact dictS_shorter (objS_shorter d) h2
   · cases h
theorem leL_iff (x y : L) : leL x y = true ↔ x ≤ y:=by
 induction x generalizing y with
 | nil => simp [leL]
 | cons a x ih =>
   cases y with
   | nil => simp [leL]
   | cons b y =>
     rw [List.cons_le_cons_iff]
     simp [leL,ih]
theorem insL_perm (k : L) (l : List L) : (insL k l).Perm (k :: l):=by
 induction l with
 | nil => exact List.Perm.refl _
 | cons x l ih =>
   unfold insL;split
   · exact List.Perm.refl _
   · exact (List.Perm.cons x ih).trans (List.Perm.swap k x l)
theorem isort_perm (l : List L) : (isort l).Perm l:=by
 induction l with
 | nil => exact List.Perm.refl _
 | cons x l ih => exact (insL_perm x _).trans (List.Perm.cons x ih)
theorem insL_sorted (k : L) (l : List L) (h : l.Pairwise (· ≤ ·)) : (insL k l).Pairwise (· ≤ ·):=by
 induction l with
 | nil => simp [insL]
 | cons x l ih =>
   unfold insL
   obtain ⟨h1,h2⟩:=List.pairwise_cons.1 h
   split
   · rename_i hle
     rw [leL_iff] at hle
     refine List.pairwise_cons.2 ⟨fun y hy => ?_,h⟩
     rcases List.mem_cons.1 hy with rfl | hy
     · exact hle
     · exact List.le_trans hle (h1 y hy)
   · rename_i hle
     rw [leL_iff] at hle
     refine List.pairwise_cons.2 ⟨fun y hy => ?_,ih h2⟩
     rcases List.mem_cons.1 ((insL_perm k l).mem_iff.1 hy) with rfl | hy
     · rcases List.le_total x y with h | h
       · exact h
       · exact absurd h hle
     · exact h1 y hy
theorem isort_sorted (l : List L) : (isort l).Pairwise (· ≤ ·):=by
 induction l with
 | nil => exact List.Pairwise.nil
 | cons x l ih => exact insL_sorted x _ ih
theorem isort_of_perm {l l' : List L} (h : l.Perm l') (hs : l'.Pairwise (· ≤ ·)) : l' = isort l:=by
 refine List.Perm.eq_of_pairwise (le:=fun a b => a ≤ b) (fun a b _ _ h1 h2 => List.le_antisymm h1 h2) hs (isort_sorted l) (h.symm.trans (isort_perm l).symm)
theorem isort_merge (l l' : List L) (h : l.Perm l') : l.mergeSort (fun x y => decide (x ≤ y)) = isort l':=by
 have tr : ∀ a b c : L,decide (a ≤ b) = true → decide (b ≤ c) = true → decide (a ≤ c) = true:=fun a b c h1 h2 => by simp only [decide_eq_true_eq] at *;exact List.le_trans h1 h2
 have tot : ∀ a b : L,(decide (a ≤ b) || decide (b ≤ a)) = true:=fun a b => by simp only [Bool.or_eq_true,decide_eq_true_eq];exact List.le_total a b
 refine isort_of_perm (h.symm.trans (List.mergeSort_perm l _).symm) ?_
 have:=List.pairwise_mergeSort tr tot l
 exact this.imp (fun h => by simpa using h)
def zeroB (o : Ob) (n g s list : Bool) : Bool:=(n || o.n == 0) && (g || o.g == 0) && (s || o.s.isEmpty) && (list || (o.keys.isEmpty && o.kids.isEmpty))
def nameB (s : L) : Bool:=s.all (· != 0) && decide (s.length ≤ 127)
def usesB (o : Ob) : Bool :=
 if o.kind = 0 then zeroB o false false false false
 else if o.kind = 1 ∨ o.kind = 2 ∨ o.kind = 3 then zeroB o true false false false
 else if o.kind = 4 ∨ o.kind = 5 then zeroB o false false true false
 else if o.kind = 6 then zeroB o false false false true && o.keys.isEmpty
 else if o.kind = 7 then zeroB o false false false true
 else if o.kind = 8 then zeroB o true true false false
 else if o.kind = 9 then zeroB o false false true true
 else false
def fitsB (o : Ob) : Bool :=
 if o.kind = 1 then o.n == 0 || o.n == 1
 else if o.kind = 2 then decide (-2147483647 ≤ o.n) && decide (o.n ≤ 2147483647)
 else if o.kind = 3 then decide (-1073741824 ≤ o.n) && decide (o.n ≤ 1073741824)
 else if o.kind = 8 then decide (1 ≤ o.n) && decide (o.n ≤ 8191) && decide (0 ≤ o.g) && decide (o.g ≤ 65535)
 else true
def longB (k : Int) : Nat:=if k = 5 then 127 else if k = 9 then 1048576 else 32767
def wLength : L:=[76,101,110,103,116,104]
def keyAt (o : Ob) (i : Nat) : Bool :=
 nameB (o.keys.getD i []) && (i == 0 || decide (o.keys.getD (i - 1) [] < o.keys.getD i [])) && !(o.keys.getD i [] == wLength && o.kind == 9) && (o.kids.getD i .zero).kind != 0
def keysB (o : Ob) : Bool :=
 if o.kind = 5 then nameB o.s
 else if o.kind ≠ 7 ∧ o.kind ≠ 9 then true
 else o.keys.length == o.kids.length && (List.range o.keys.length).all (keyAt o)
def firstBad (l : List Int) : Int:=(l.find? (· != 0)).getD 0
def checkB : Nat → Ob → Int
 | 0,_ => 7
 | n + 1,o =>
   if !usesB o || (o.kind == 9 && n != 23) then 10
   else if !fitsB o then 2
   else if longB o.kind < o.s.length then 5
   else if 8191 < o.kids.length then 6
   else if !keysB o then 3
   else firstBad (o.kids.map (checkB n))
theorem firstBad_zero {l : List Int} (h : ∀ x ∈ l,x = 0) : firstBad l = 0:=by
 unfold firstBad
 rw [List.find?_eq_none.2 (fun x hx => by simp [h x hx])];rfl
theorem hexv_lt (c : UInt8) : hexv c < 16:=by
 unfold hexv digit;split
 · omega
 · split
   · omega
   · split <;> omega
theorem find_pair {ps : List (L × Ob)} (hn : (ps.map (·.1)).Nodup) {x : L × Ob} (hx : x ∈ ps) : ps.find? (fun p => p.1 == x.1) = some x:=by
 induction ps with
 | nil => cases hx
 | cons y ps ih =>
   rw [List.map_cons,List.nodup_cons] at hn
   rcases List.mem_cons.1 hx with rfl | hx'
   · simp
   · have : y.1 ≠ x.1 := by
       intro he;apply hn.1;rw [he];exact List.mem_map.2 ⟨x,hx',rfl⟩
     rw [List.find?_cons_of_neg (by simpa using this)]
     exact ih hn.2 hx'
def sep (c : UInt8) : Prop:=c = 32 ∨ c = 10
theorem val_snoc (l : L) (c : UInt8) : val (l ++ [c]) = 10 * val l + (c.toNat - 48):=by unfold val;rw [List.foldl_append];rfl
structure Sl where
 num : Int
 kind : Int
 a : Int
 b : Int
deriving DecidableEq
def wRoot : L:=[82,111,111,116]
def wInfo : L:=[73,110,102,111]
def wID : L:=[73,68]
def idxS : List L → L → Option Nat
 | [],_ => none
 | x :: l,k => if x = k then some 0 else (idxS l k).map (· + 1)
def dictB (o : Ob) : Bool:=o.kind == 7 || o.kind == 9
def getO (o : Ob) (k : L) : Option Ob:=if dictB o then (match idxS o.keys k with | none => none | some i => o.kids[i]?) else none
def lowS : List L → L → Nat
 | [],_ => 0
 | x :: l,k => if x < k then lowS l k + 1 else 0
def strC (c : UInt8) : L :=
 if c == 40 || c == 41 || c == 92 then [92,c]
 else if decide (c < 32) || decide (126 < c) then [92,48 + c / 64,48 + c / 8 % 8,48 + c % 8]
 else [c]
def joinW : UInt8 → List L → L
 | _,[] => []
 | c,[] :: l => joinW c l
 | c,(x :: p) :: l => (if (regular c || c == 47) && regular x then [32] else []) ++ (x :: p) ++ joinW ((x :: p).getLast (by simp)) l
theorem getD_lt {α : Type} {l : List α} (d : α) {i : Nat} (h : i < l.length) : l.getD i d = l[i]:=by rw [List.getD_eq_getElem?_getD,List.getElem?_eq_getElem h];rfl
theorem lowS_of : ∀ (l : List L) (k : L) (i : Nat),i ≤ l.length → (∀ j (h : j < l.length),j < i → l[j] < k) → (∀ h : i < l.length,¬ l[i] < k) → lowS l k = i
 | [],_,i,h,_,_ => by simp at h;subst h;rfl
 | x :: l,k,0,_,_,h2 => by
   unfold lowS
   rw [if_neg (show ¬ x < k from h2 (by simp))]
 | x :: l,k,i + 1,h,h1,h2 => by
   unfold lowS
   have hx : x < k:=h1 0 (by simp) (by omega)
   rw [if_pos hx,lowS_of l k i (by simpa using h) (fun j hj hi => h1 (j + 1) (by simpa using hj) (by omega)) (fun hi => h2 (by simpa using hi))]
theorem idxS_some : ∀ {l : List L} {k : L} {i : Nat} (h : i < l.length),l[i] = k → (∀ j (hj : j < l.length),j < i → l[j] ≠ k) → idxS l k = some i
 | x :: l,k,0,_,h1,_ => by unfold idxS;rw [if_pos (by simpa using h1)]
 | x :: l,k,i + 1,h,h1,h2 => by
   unfold idxS
   rw [if_neg (show ¬ x = k from h2 0 (by simp) (by omega)),idxS_some (l:=l) (i:=i) (by simpa using h) (by simpa using h1) (fun j hj hi => h2 (j + 1) (by simpa using hj) (by omega))];rfl
theorem idxS_spec : ∀ {l : List L} {k : L} {i : Nat},idxS l k = some i → ∃ h : i < l.length,l[i] = k
 | [],_,_,h => by cases h
 | x :: l,k,i,h => by
   unfold idxS at h
   by_cases hx : x = k
   · rw [if_pos hx] at h;cases h;exact ⟨by simp,hx⟩
   · rw [if_neg hx] at h
     cases hl : idxS l k with
     | none => rw [hl] at h;cases h
     | some j =>
       rw [hl] at h
       simp at h
       subst h
       obtain ⟨h1,h2⟩:=idxS_spec hl
       exact ⟨by simpa using h1,by simpa using h2⟩
theorem wkeys_up {ks : List L} (h : ∀ i,i + 1 < ks.length → ks.getD i [] < ks.getD (i + 1) []) : ks.Pairwise (· < ·):=by
 induction ks with
 | nil => exact .nil
 | cons x ks ih =>
   have ht : ks.Pairwise (· < ·):=ih (fun i hi => by have:=h (i + 1) (by simp;omega);simpa using this)
   refine List.pairwise_cons.2 ⟨?_,ht⟩
   cases ks with
   | nil => simp
   | cons y ks =>
     have hxy : x < y:=by have:=h 0 (by simp);simpa using this
     intro z hz
     rcases List.mem_cons.1 hz with rfl | hz
     · exact hxy
     · exact List.lt_trans hxy ((List.pairwise_cons.1 ht).1 z hz)
structure KeysOk (o : Ob) : Prop where
 len : o.keys.length = o.kids.length
 name : ∀ k ∈ o.keys,nameB k = true
 up : o.keys.Pairwise (· < ·)
 own : o.kind = 9 → ∀ k ∈ o.keys,k ≠ wLength
 kids : ∀ x ∈ o.kids,x.kind ≠ 0
theorem keysB_iff (o : Ob) (h : o.kind = 7 ∨ o.kind = 9) : keysB o = true ↔ KeysOk o:=by
 have e : keysB o = (o.keys.length == o.kids.length && (List.range o.keys.length).all (keyAt o)):=by
   unfold keysB
   rw [if_neg (by omega),if_neg (by omega)]
 rw [e]
 simp only [Bool.and_eq_true,beq_iff_eq,List.all_eq_true,List.mem_range]
 constructor
 · rintro ⟨hl,hk⟩
   have hk' : ∀ i (hi : i < o.keys.length),nameB o.keys[i] = true ∧ (i = 0 ∨ o.keys.getD (i - 1) [] < o.keys[i]) ∧ ¬ (o.keys[i] = wLength ∧ o.kind = 9) ∧ (o.kids[i]'(by omega)).kind ≠ 0:=by
     intro i hi
     have:=hk i hi
     unfold keyAt at this
     simp only [Bool.and_eq_true,Bool.or_eq_true,beq_iff_eq,decide_eq_true_eq,bne_iff_ne,ne_eq,Bool.not_eq_true',Bool.and_eq_false_iff,beq_eq_false_iff_ne] at this
     rw [getD_lt _ hi,getD_lt _ (show i < o.kids.length by omega)] at this
     obtain ⟨⟨⟨h1,h2⟩,h3⟩,h4⟩:=this
     exact ⟨h1,h2,fun hh => by rcases h3 with h3 | h3 <;> simp_all,h4⟩
   refine ⟨hl,fun k hkm => ?_,wkeys_up fun i hi => ?_,fun h9 k hkm => ?_,fun x hx => ?_⟩
   · obtain ⟨i,hi,rfl⟩:=List.mem_iff_getElem.1 hkm
     exact (hk' i hi).1
   · rcases (hk' (i + 1) hi).2.1 with h0 | h0
     · cases h0
     · rw [getD_lt _ hi];simpa using h0
   · obtain ⟨i,hi,rfl⟩:=List.mem_iff_getElem.1 hkm
     exact fun he => (hk' i hi).2.2.1 ⟨he,h9⟩
   · obtain ⟨i,hi,rfl⟩:=List.mem_iff_getElem.1 hx
     exact (hk' i (by omega)).2.2.2
 · rintro ⟨hl,hn,hu,ho,hk⟩
   refine ⟨hl,fun i hi => ?_⟩
   unfold keyAt
   rw [getD_lt _ hi,getD_lt _ (show i < o.kids.length by omega)]
   simp only [Bool.and_eq_true,Bool.or_eq_true,beq_iff_eq,decide_eq_true_eq,bne_iff_ne,ne_eq,Bool.not_eq_true',Bool.and_eq_false_iff,beq_eq_false_iff_ne]
   refine ⟨⟨⟨hn _ (List.getElem_mem _),?_⟩,?_⟩,hk _ (List.getElem_mem _)⟩
   · cases i with
     | zero => exact .inl rfl
     | succ i =>
       right
       rw [getD_lt _ (show i + 1 - 1 < o.keys.length by omega)]
       exact (List.pairwise_iff_getElem.1 hu) i (i + 1) (by omega) hi (by omega)
   · by_cases h9 : o.kind = 9
     · exact .inl (ho h9 _ (List.getElem_mem _))
     · exact .inr h9
structure ChkOk (n : Nat) (o : Ob) : Prop where
 uses : usesB o = true
 top : o.kind = 9 → n = 23
 fits : fitsB o = true
 short : o.s.length ≤ longB o.kind
 many : o.kids.length ≤ 8191
 keys : keysB o = true
 kids : ∀ x ∈ o.kids,checkB n x = 0
theorem firstBad_zero_iff {l : List Int} : firstBad l = 0 ↔ ∀ x ∈ l,x = 0:=by
 constructor
 · intro h x hx
   unfold firstBad at h
   cases hf : l.find? (· != 0) with
   | none => exact Classical.byContradiction fun hn => by have:=List.find?_eq_none.1 hf x hx;simp [hn] at this
   | some y =>
     rw [hf] at h
     have:=List.find?_some hf
     simp at h this;exact absurd h this
 · exact firstBad_zero
theorem checkB_iff (n : Nat) (o : Ob) : checkB (n + 1) o = 0 ↔ ChkOk n o:=by
 constructor
 · intro h
   unfold checkB at h
   by_cases h1 : (!usesB o || (o.kind == 9 && n != 23)) = true
   · rw [if_pos h1] at h;cases h
   rw [if_neg h1] at h
   by_cases h2 : (!fitsB o) = true
   · rw [if_pos h2] at h;cases h
   rw [if_neg h2] at h
   by_cases h3 : longB o.kind < o.s.length
   · rw [if_pos h3] at h;cases h
   rw [if_neg h3] at h
   by_cases h4 : 8191 < o.kids.length
   · rw [if_pos h4] at h;cases h
   rw [if_neg h4] at h
   by_cases h5 : (!keysB o) = true
   · rw [if_pos h5] at h;cases h
   rw [if_neg h5] at h
   have h6:=firstBad_zero_iff.1 h
   simp only [Bool.or_eq_true,Bool.not_eq_true',Bool.and_eq_true,beq_iff_eq,bne_iff_ne,ne_eq,not_or,not_and,Decidable.not_not,Bool.not_eq_false] at h1 h2 h5
   exact ⟨h1.1,h1.2,h2,by omega,by omega,h5,fun x hx => h6 _ (List.mem_map_of_mem hx)⟩
 · rintro ⟨h1,h2,h3,h4,h5,h6,h7⟩
   unfold checkB
   rw [if_neg (by simp only [Bool.or_eq_true,Bool.not_eq_true',Bool.and_eq_true,beq_iff_eq,bne_iff_ne,ne_eq,not_or,not_and,Decidable.not_not,Bool.not_eq_false];exact ⟨h1,h2⟩),if_neg (by simp [h3]),if_neg (by omega),if_neg (by omega),if_neg (by simp [h6])]
   exact firstBad_zero_iff.2 fun x hx => by obtain ⟨y,hy,rfl⟩:=List.mem_map.1 hx;exact h7 y hy
def J (c : UInt8) (ts : List L) (r : L) : L:=joinW c ts ++ 10 :: r
def numR (l : L) (lo hi : Int) : Option (Int × L) :=
 match (nextT l).2 with
 | .bad _ => none
 | .good t => if t.kind = 1 ∧ lo ≤ t.n ∧ t.n ≤ hi then some (t.n,l.drop ((nextT l).1 + t.len)) else none
def wordR (l w : L) : Option L :=
 match (nextT l).2 with
 | .bad _ => none
 | .good t => if t.kind = 5 ∧ t.s = w then some (l.drop ((nextT l).1 + t.len)) else none
def entryR (num : Int) (l : L) : Option (Sl × L) :=
 match numR l 0 2147483647 with
 | none => none
 | some (a,l1) =>
   match numR l1 0 65535 with
   | none => none
   | some (b,l2) =>
     match wordR l2 [110] with
     | some l3 => some (⟨num,1,a,b⟩,l3)
     | none =>
       match wordR l2 [102] with
       | some l3 => some (⟨num,0,a,b⟩,l3)
       | none => none
def layR : List Sl → Sl → Option (List Sl)
 | [],x => some [x]
 | y :: l,x => if y.num < x.num then (layR l x).map (y :: ·) else if y.num = x.num then none else some (x :: y :: l)
def entriesR : Nat → Int → L → List Sl → Option (List Sl × L)
 | 0,_,l,acc => some (acc,l)
 | n + 1,num,l,acc =>
   match entryR num l with
   | none => none
   | some (x,l1) =>
     match layR acc x with
     | none => none
     | some acc1 => entriesR n (num + 1) l1 acc1
def wordX : L:=[120,114,101,102]
def wordTr : L:=[116,114,97,105,108,101,114]
def sectR : Nat → L → List Sl → Option (List Sl × L)
 | 0,_,_ => none
 | f + 1,l,acc =>
   match wordR l wordTr with
   | some l1 => some (acc,l1)
   | none =>
     match numR l 0 8191 with
     | none => none
     | some (first,l1) =>
       match numR l1 0 (8192 - first) with
       | none => none
       | some (count,l2) =>
         match entriesR count.toNat first l2 acc with
         | none => none
         | some (acc1,l3) => sectR f l3 acc1
def tableR (l : L) : Option (List Sl × Ob × L) :=
 if l.take 4 = wordX then
   match wordR l wordX with
   | none => none
   | some l1 =>
     match sectR (l1.length + 1) l1 [] with
     | none => none
     | some (ps,l2) =>
       match readS l2 with
       | .bad _ => none
       | .good (o,l3) => if o.kind = 7 then some (ps,o,l3) else none
 else none
end Fo
namespace Go.Proofs.YtinafodpgjbedaaGreatDoor
open Go.RowKit Fo
def slE : Enc Sl:=⟨4,fun x => [.int .i64 x.num,.int .i64 x.kind,.int .i64 x.a,.int .i64 x.b],fun _ => rfl,fun x u hu => by
 simp only [List.mem_cons,List.not_mem_nil,or_false] at hu
 rcases hu with rfl | rfl | rfl | rfl <;> rfl⟩
theorem slot_at {w : World} {p : Option Addr} {n c : Nat} {l : List Sl} (h : RArg slE w (.slice p n c) l) (k : Nat) (hk : k < l.length) :
   ∃ g off,p = some ⟨g,off,none⟩ ∧ g < w.heap.size ∧ w.cell? ⟨g,off + k * 4,none⟩ = some (.int .i64 l[k].num) ∧ w.cell? ⟨g,off + k * 4 + 1,none⟩ = some (.int .i64 l[k].kind) ∧
     w.cell? ⟨g,off + k * 4 + 2,none⟩ = some (.int .i64 l[k].a) ∧ w.cell? ⟨g,off + k * 4 + 3,none⟩ = some (.int .i64 l[k].b):=by
 obtain ⟨p',c',e,h⟩:=h
 cases e
 obtain ⟨g,off,h1,h2,h3⟩:=h k hk
 exact ⟨g,off,h1,h2,h3 0 _ rfl,h3 1 _ rfl,h3 2 _ rfl,h3 3 _ rfl⟩
open Go.RowKit Fo
def RdT (w : World) (r : Nat) (s : ByteArray) (a : Nat) : Prop:=w.heap[r]? = some (.cells #[.string s,.int .i64 a] 85 (0,0))
theorem RdT.lt {w : World} {r : Nat} {s : ByteArray} {a : Nat} (h : RdT w r s a) : r < w.heap.size:=lt_of_block h
theorem RdT.cell0 {w : World} {r : Nat} {s : ByteArray} {a : Nat} (h : RdT w r s a) : w.cell? ⟨r,0,none⟩ = some (.string s):=by
 unfold RdT at h;simp [World.cell?,h]
theorem RdT.cell1 {w : World} {r : Nat} {s : ByteArray} {a : Nat} (h : RdT w r s a) : w.cell? ⟨r,1,none⟩ = some (.int .i64 a):=by
 unfold RdT at h;simp [World.cell?,h]
theorem RdT.frozen {w : World} {r : Nat} {s : ByteArray} {a : Nat} (h : RdT w r s a) (o : Nat) : w.frozen? ⟨r,o,none⟩ = false:=by
 unfold RdT at h;simp [World.frozen?,h]
theorem RdT.below {w w' : World} {r : Nat} {s : ByteArray} {a : Nat} (h : RdT w r s a) (hb : Below w.heap.size w w') : RdT w' r s a:=by
 unfold RdT at *;rw [hb.block r (lt_of_block h)];exact h
theorem RdT.belowB {B : Nat} {w w' : World} {r : Nat} {s : ByteArray} {a : Nat} (h : RdT w r s a) (hb : Below B w w') (hB : r < B) : RdT w' r s a:=by
 unfold RdT at *;rw [hb.block r hB];exact h
theorem RdT.set {w : World} {r : Nat} {s : ByteArray} {a b : Nat} (h : RdT w r s a) : RdT (w.setCell ⟨r,1,none⟩ (.int .i64 b)) r s b:=by
 unfold RdT at *
 have hlt:=lt_of_block h
 have h' : w.heap[r] = .cells #[.string s,.int .i64 a] 85 (0,0):=by simpa [Array.getElem?_eq_getElem hlt] using h
 simp only [World.setCell,Array.getElem?_modify]
 simp [h]
theorem tmust_yes (w : World) : Calls Tryz.prog 71 #[.bool true] w fun e w' => e = .returned (.tuple #[]) ∧ w' = w:=by
 go_enter Tryz.func71,Tryz.ntmps71
 go_wp2
 go_end0
 exact ⟨rfl,rfl⟩
theorem tnext_good (r : Nat) (s : ByteArray) (a p : Nat) (t : Tok) (ha : a ≤ s.size) (hs : s.size ≤ 140737488355327) (m : Int) (w : World) (hm : MaxW w m) (hr : RdT w r s a)
   (h : (nextT (s.data.toList.drop a)).2 = .good t) (hp : a + (nextT (s.data.toList.drop a)).1 = p) :
   Calls Tryz.prog 72 #[.pointer (some ⟨r,0,none⟩)] w fun e w' => e = .returned (tkV t p) ∧ RdT w' r s (p + t.len) ∧ Bes r w w':=by
 obtain ⟨q,hq⟩ : ∃ q,p + t.len = q:=⟨_,rfl⟩
 have HN:=Lh (fun W hW => lexnext_good s a p t h hp ha hs m W hW)
 simp only [hq] at HN
 have hc0:=hr.cell0
 have hc1:=hr.cell1
 have hf0:=hr.frozen 1
 have hlt:=hr.lt
 have hA : ∀ W,Below w.heap.size w W → MaxW W m:=fun W hb => hm.below hb
 have HA:=Lh hA
 clear h hp hA
 go_enter Tryz.func72,Tryz.ntmps72
 go_upto_region 1 with fail
 go_cut [3,4] (fun s3 s4 wx => ∃ g : Nat,s3 = .pointer (some ⟨g,0,none⟩) ∧ s4 = .int .i64 0 ∧ wx.cell? ⟨g,0,none⟩ = some (.int .i64 t.kind) ∧ wx.cell? ⟨g,1,none⟩ = some (.int .i64 p) ∧ wx.cell? ⟨g,2,none⟩ = some (.int .i64 q) ∧ wx.cell? ⟨g,3,none⟩ = some (.int .i64 t.n) ∧ wx.cell? ⟨g,4,none⟩ = some (.string ⟨t.s.toArray⟩) ∧ w.heap.size < g ∧ Below (w.heap.size + 1) (w.alloc (.cells #[.int .i64 0,.int .i64 0,.int .i64 0,.int .i64 0,.string ⟨#[]⟩] 96)) wx)
 case first =>
   have ne1 : ¬ r = w.heap.size + 1:=by omega
   have ne2 : ¬ w.heap.size + 1 = r:=by omega
   go_region_held3 (fun w' => w'.cell? ⟨r,0,none⟩ = some (.string s) ∧ w'.cell? ⟨r,1,none⟩ = some (.int .i64 a)) (go_keep) ((go_at_call 79;refine (HN.out _ (HA.out _ bel)).mono ?_;rintro e w1 ⟨rfl,hb⟩;obtain ⟨hc,hf⟩:=bcell hb;have hz:=hb.size;simp at hz;have hbw : Below w.heap.size w w1:=bel;have k0:=(hbw.cell (p:=⟨r,0,none⟩) hlt).trans hc0;have k1:=(hbw.cell (p:=⟨r,1,none⟩) hlt).trans hc1))
   all_goals go_wp2_with fail
   all_goals go_meet
   all_goals first
     | exact ⟨w1.heap.size,rfl,rfl,by simp [go_sem],by simp [go_sem],by simp [go_sem],by simp [go_sem],by simp [go_sem],by omega,belS⟩
     | exact ⟨w.heap.size + 1,rfl,rfl,by simp [go_sem,hc,hf],by simp [go_sem,hc,hf],by simp [go_sem,hc,hf],by simp [go_sem,hc,hf],by simp [go_sem,hc,hf],by omega,belS⟩
 case rest =>
   obtain ⟨g,rfl,rfl,g0,g1,g2,g3,g4,hg,hb⟩:=hcut
   obtain ⟨hc,hf⟩:=bcellB hb
   have hrw : RdT wc r s a:=(hr.below (w':=w.alloc (.cells #[.int .i64 0,.int .i64 0,.int .i64 0,.int .i64 0,.string ⟨#[]⟩] 96)) bel).belowB hb (by omega)
   have k1:=hrw.cell1
   have kf:=hrw.frozen
   have hgr : ¬ g = r:=by omega
   have hrg : ¬ r = g:=by omega
   have hrz : ¬ r = w.heap.size:=by omega
   have hzr : ¬ w.heap.size = r:=by omega
   go_wp2_with (go_at_call 71;refine (tmust_yes _).mono ?_;rintro e w9 ⟨rfl,rfl⟩)
   refine bodyPost_ret (v:=tkV t p) (by simp [results,Tryz.results72,go_sem,hc,hf,tkV,hq]) rfl ⟨rfl,?_,?_⟩
   · rw [hq]
     have hW:=hrw.set (b:=q)
     exact hW.belowB (B:=r + 1) belr (by omega)
   · exact (by repeat' (first | (with_reducible exact Bes.refl _ _) | (with_reducible refine Bes.drew ?_) | (with_reducible refine Bes.drewN ?_ _) | (with_reducible refine Bes.alloc ?_ _) | (with_reducible refine Bes.setCell ?_ _ _) | (with_reducible refine Bes.setCell_new ?_ ?_ _) | (with_reducible refine Bes.belowB ?_ hb5 ?_) | (with_reducible refine Bes.belowB ?_ hb4 ?_) | (with_reducible refine Bes.belowB ?_ hb3 ?_) | (with_reducible refine Bes.belowB ?_ hb2 ?_) | (with_reducible refine Bes.belowB ?_ hb1 ?_) | (with_reducible refine Bes.belowB ?_ hbr ?_) | (with_reducible refine Bes.belowB ?_ hb ?_) | (with_reducible refine Bes.trans ?_ hs5) | (with_reducible refine Bes.trans ?_ hs4) | (with_reducible refine Bes.trans ?_ hs3) | (with_reducible refine Bes.trans ?_ hs2) | (with_reducible refine Bes.trans ?_ hs1) | (show _ ≤ _;simp;done) | (show _ ≤ _;simp;omega) | omega))
theorem twhole_good (n most : Int) (p q : Nat) (x : ByteArray) (h0 : 0 ≤ n) (h1 : n ≤ most) (w : World) :
   Calls Tryz.prog 117 #[.agg #[.int .i64 1,.int .i64 p,.int .i64 q,.int .i64 n,.string x],.int .i64 most] w fun e w' => e = .returned (.int .i64 n) ∧ Below w.heap.size w w':=by
 have d0 : decide (0 ≤ n) = true:=decide_eq_true h0
 have d1 : decide (n ≤ most) = true:=decide_eq_true h1
 clear h0 h1
 go_enter Tryz.func117,Tryz.ntmps117
 go_wp2_with (go_at_call 71;refine (tmust_yes _).mono ?_;rintro e w9 ⟨rfl,rfl⟩)
 go_ret
 exact ⟨rfl,bel⟩
open Go.RowKit Fo Go.Maps
def slotR (v : Value) : Option (DataW Unit × List MemPlace):=match v with
 | .agg ⟨[.int .i64 a,.int .i64 b,.int .i64 c,.int .i64 d]⟩ => some (.agg [.lit (.int .i64 a),.lit (.int .i64 b),.lit (.int .i64 c),.lit (.int .i64 d)],[])
 | _ => none
def slV (x : Sl) : Value:=.agg #[.int .i64 x.num,.int .i64 x.kind,.int .i64 x.a,.int .i64 x.b]
def slD (x : Sl) : DataW Unit:=.agg [.lit (.int .i64 x.num),.lit (.int .i64 x.kind),.lit (.int .i64 x.a),.lit (.int .i64 x.b)]
theorem slotR_slV (x : Sl) : slotR (slV x) = some (slD x,[]):=rfl
theorem slotR_inv {v : Value} {z : DataW Unit × List MemPlace} (h : slotR v = some z) : ∃ x : Sl,v = slV x ∧ z = (slD x,[]):=by
 unfold slotR at h
 split at h
 · rename_i a b c d
   cases h
   exact ⟨⟨a,b,c,d⟩,rfl,rfl⟩
 · cases h
theorem slD_inj {x y : Sl} (h : slD x = slD y) : x = y:=by
 obtain ⟨_,_,_,_⟩:=x
 obtain ⟨_,_,_,_⟩:=y
 simp [slD] at h
 obtain ⟨rfl,rfl,rfl,rfl⟩:=h
 rfl
structure MapS (D : DataW Unit) (ps : List Sl) : Prop where
 tidy : Tidy D
 has : ∀ c : Int,Maps.has D (.int .i64 c) = (ps.find? (fun x => x.num == c)).isSome
 at' : ∀ (c : Int) (x : Sl),ps.find? (fun x => x.num == c) = some x → ∀ z,D.atKey (.int .i64 c) z = slD x
theorem MapS.nil : MapS (.map []) []:=⟨tidy_empty,fun c => rfl,fun c x h => by simp at h⟩
theorem isKey_num (c : Int) : WideAt.IsKeyLit (.int .i64 c):=trivial
theorem MapS.push {D : DataW Unit} {ps : List Sl} (h : MapS D ps) (x : Sl) (hx : ps.find? (fun y => y.num == x.num) = none) : MapS (D.put (.int .i64 x.num) (slD x)) (ps ++ [x]):=by
 refine ⟨h.tidy.put (isKey_num _) _,fun c => ?_,fun c y hy z => ?_⟩
 · rw [List.find?_append]
   by_cases hc : c = x.num
   · subst hc
     rw [has_put_same h.tidy.isMap (isKey_num _),hx];simp
   · rw [has_put_other (by simpa using hc),h.has c]
     have : ¬ x.num = c:=fun h => hc h.symm
     simp [this]
 · rw [List.find?_append] at hy
   by_cases hc : c = x.num
   · subst hc
     rw [hx] at hy
     simp at hy
     subst hy
     exact atKey_put_same h.tidy.isMap (isKey_num _) _ _
   · have : ¬ x.num = c:=fun h => hc h.symm
     rw [atKey_put_other (by simpa using hc)]
     refine h.at' c y ?_ z
     simpa [this] using hy
def MpS (w : World) (mb n : Nat) (ps : List Sl) : Prop:=∃ D : DataW Unit,w.ownsMap Tryz.prog 3 slotR mb n D ∧ MapS D ps
theorem MpS.lt {w : World} {mb n : Nat} {ps : List Sl} (h : MpS w mb n ps) : mb < w.heap.size:=by
 obtain ⟨D,⟨es,clock,hb,_⟩,_⟩:=h
 exact (Array.getElem?_eq_some_iff.1 hb).1
theorem MpS.kept {w w' : World} {mb n : Nat} {ps : List Sl} (h : MpS w mb n ps) (hk : w'.heap[mb]? = w.heap[mb]?) : MpS w' mb n ps:=by
 obtain ⟨D,⟨es,clock,hb,F⟩,h2⟩:=h
 exact ⟨D,⟨es,clock,hk.trans hb,F⟩,h2⟩
theorem MpS.below {w w' : World} {mb n : Nat} {ps : List Sl} (h : MpS w mb n ps) (hb : Below w.heap.size w w') : MpS w' mb n ps:=h.kept (hb.block mb h.lt)
theorem MpS.made (w : World) : MpS (w.alloc (.map #[] 0)) w.heap.size 0 []:=⟨_,World.ownsMap_made w _ _ _,MapS.nil⟩
theorem zeroSlot (w : World) : (zeroValue 28).run Tryz.prog w = .ok (slV ⟨0,0,0,0⟩) w:=by kernel_rfl
theorem MpS.lookW {w : World} {mb n : Nat} {ps : List Sl} (h : MpS w mb n ps) (c : Int) (hwf : (Lit.int .i64 c).wf = true) :
   ∃ x : Sl,(Instr.lookup 48 (.map (some mb)) (.int .i64 c) true).run Tryz.prog w = .ok (.tuple #[slV x,.bool (ps.find? (fun y => y.num == c)).isSome]) w ∧
     ∀ y,ps.find? (fun y => y.num == c) = some y → x = y:=by
 obtain ⟨D,hown,hD⟩:=h
 have hkey:=keyOf_int_mk Tryz.underlying3 hwf
 obtain ⟨v0,ps0,hrun,hv0⟩:=hown.look_ok (int_keyed Tryz.underlying3) Tryz.underlying48 (zeroSlot w) (slotR_slV _) hkey
 obtain ⟨x,rfl,hz⟩:=slotR_inv hv0
 refine ⟨x,by rw [hrun,hD.has c],fun y hy => ?_⟩
 have e : D.atKey (.int .i64 c) (slD ⟨0,0,0,0⟩) = slD x:=congrArg Prod.fst hz
 rw [hD.at' c y hy] at e
 exact (slD_inj e).symm
open Go.RowKit Fo
theorem peek_good (r : Nat) (s : ByteArray) (a0 a p : Nat) (t : Tok) (ha : a ≤ s.size) (hs : s.size ≤ 140737488355327) (m : Int) (w : World) (hm : MaxW w m) (hr : RdAt w r s a0)
   (h : (nextT (s.data.toList.drop a)).2 = .good t) (hp : a + (nextT (s.data.toList.drop a)).1 = p) :
   Calls Tryz.prog 231 #[.pointer (some ⟨r,0,none⟩),.int .i64 a] w fun e w' => e = .returned (.tuple #[.agg #[.int .i64 t.kind,.int .i64 p,.int .i64 ((p + t.len : Nat) : Int),.int .i64 t.n,.string ⟨t.s.toArray⟩],.bool true]) ∧ Below w.heap.size w w':=by
 obtain ⟨q,hq⟩ : ∃ q,p + t.len = q:=⟨_,rfl⟩
 have HN:=Lh (fun W hW => lexnext_good s a p t h hp ha hs m W hW)
 simp only [hq] at HN
 have hc0:=hr.cell0
 have hlt:=hr.lt
 have HA:=Lh (fun W (hb : Below w.heap.size w W) => hm.below hb)
 clear h hp
 go_enter Tryz.func231,Tryz.ntmps231
 go_wp2_with fail
 refine (HN.out _ (HA.out _ bel)).mono ?_
 rintro e w1 ⟨rfl,hb⟩
 obtain ⟨hc,hf⟩:=bcell hb
 have hz : w.heap.size < w1.heap.size:=by have:=hb.size;simp at this;omega
 go_wp2
 refine bodyPost_ret (v:=.tuple #[.agg #[.int .i64 t.kind,.int .i64 p,.int .i64 q,.int .i64 t.n,.string ⟨t.s.toArray⟩],.bool true]) (by simp [results,Tryz.results231,go_sem,hc,hf,hz]) rfl ⟨by rw [hq],bel⟩
theorem peek_bad (r : Nat) (s : ByteArray) (a0 a : Nat) (k : Int) (ha : a ≤ s.size) (hs : s.size ≤ 140737488355327) (m : Int) (w : World) (hm : MaxW w m) (hr : RdAt w r s a0)
   (h : (nextT (s.data.toList.drop a)).2 = .bad k) :
   Calls Tryz.prog 231 #[.pointer (some ⟨r,0,none⟩),.int .i64 a] w fun e w' => e = .returned (.tuple #[.agg #[.int .i64 0,.int .i64 0,.int .i64 0,.int .i64 0,.string ⟨#[]⟩],.bool false]) ∧ Below w.heap.size w w':=by
 have HN:=Lh (fun W hW => lexnext_bad s a k h ha hs m W hW)
 have hk0 : (k == 0) = false:=by have:=nextT_bad h;simp;omega
 have hc0:=hr.cell0
 have hlt:=hr.lt
 have HA:=Lh (fun W (hb : Below w.heap.size w W) => hm.below hb)
 clear h
 go_enter Tryz.func231,Tryz.ntmps231
 go_wp2_with fail
 refine (HN.out _ (HA.out _ bel)).mono ?_
 rintro e w1 ⟨rfl,hb⟩
 obtain ⟨hc,hf⟩:=bcell hb
 have hz : w.heap.size < w1.heap.size:=by have:=hb.size;simp at this;omega
 go_wp2
 refine bodyPost_ret (v:=.tuple #[.agg #[.int .i64 0,.int .i64 0,.int .i64 0,.int .i64 0,.string ⟨#[]⟩],.bool false]) (by simp [results,Tryz.results231,go_sem,hc,hf,hz]) rfl ⟨rfl,bel⟩
def obV (k n g : Int) (s : L) : Value:=.agg #[.int .i64 k,.int .i64 n,.int .i64 g,.string ⟨s.toArray⟩,.slice none 0 0,.slice none 0 0]
theorem obV_at (S : Nat → Prop) (d : Nat) (w : World) (k n g : Int) (s : L) : ObjAt S (d + 1) w (objCells k n g s (.slice none 0 0) (.slice none 0 0)) (.mk k n g s [] []) :=
 ⟨_,_,rfl,.inl ⟨rfl,_,_,rfl⟩,.inl ⟨rfl,_,_,rfl⟩⟩
theorem pvint_in (n : Int) (w : World) : Calls Tryz.prog 187 #[.int .i64 n] w fun e w' => e = .returned (obV 2 n 0 []) ∧ Below w.heap.size w w':=by
 go_enter Tryz.func187,Tryz.ntmps187
 go_wp2
 refine bodyPost_ret (v:=obV 2 n 0 []) (by simp [results,Tryz.results187,go_sem,obV]) rfl ⟨rfl,bel⟩
theorem vreal_in (n : Int) (w : World) : Calls Tryz.prog 188 #[.int .i64 n] w fun e w' => e = .returned (obV 3 n 0 []) ∧ Below w.heap.size w w':=by
 go_enter Tryz.func188,Tryz.ntmps188
 go_wp2
 refine bodyPost_ret (v:=obV 3 n 0 []) (by simp [results,Tryz.results188,go_sem,obV]) rfl ⟨rfl,bel⟩
theorem vstr_in (x : L) (w : World) : Calls Tryz.prog 189 #[.string ⟨x.toArray⟩] w fun e w' => e = .returned (obV 4 0 0 x) ∧ Below w.heap.size w w':=by
 go_enter Tryz.func189,Tryz.ntmps189
 go_wp2
 refine bodyPost_ret (v:=obV 4 0 0 x) (by simp [results,Tryz.results189,go_sem,obV]) rfl ⟨rfl,bel⟩
theorem vname_in (x : L) (w : World) : Calls Tryz.prog 190 #[.string ⟨x.toArray⟩] w fun e w' => e = .returned (obV 5 0 0 x) ∧ Below w.heap.size w w':=by
 go_enter Tryz.func190,Tryz.ntmps190
 go_wp2
 refine bodyPost_ret (v:=obV 5 0 0 x) (by simp [results,Tryz.results190,go_sem,obV]) rfl ⟨rfl,bel⟩
theorem vnull_in (w : World) : Calls Tryz.prog 191 #[] w fun e w' => e = .returned (obV 0 0 0 []) ∧ Below w.heap.size w w':=by
 go_enter Tryz.func191,Tryz.ntmps191
 go_wp2
 refine bodyPost_ret (v:=obV 0 0 0 []) (by simp [results,Tryz.results191,go_sem,obV]) rfl ⟨rfl,bel⟩
theorem vbool_in (b : Bool) (w : World) : Calls Tryz.prog 192 #[.bool b] w fun e w' => e = .returned (obV 1 (if b then 1 else 0) 0 []) ∧ Below w.heap.size w w':=by
 cases b
 · go_enter Tryz.func192,Tryz.ntmps192
   go_wp2
   refine bodyPost_ret (v:=obV 1 0 0 []) (by simp [results,Tryz.results192,go_sem,obV]) rfl ⟨rfl,bel⟩
 · go_enter Tryz.func192,Tryz.ntmps192
   go_wp2
   refine bodyPost_ret (v:=obV 1 1 0 []) (by simp [results,Tryz.results192,go_sem,obV]) rfl ⟨rfl,bel⟩
theorem vref_in (n g : Int) (w : World) : Calls Tryz.prog 233 #[.int .i64 n,.int .i64 g] w fun e w' => e = .returned (obV 8 n g []) ∧ Below w.heap.size w w':=by
 go_enter Tryz.func233,Tryz.ntmps233
 go_wp2
 refine bodyPost_ret (v:=obV 8 n g []) (by simp [results,Tryz.results233,go_sem,obV]) rfl ⟨rfl,bel⟩
theorem word_in' (k p q n k2 : Int) (x y : L) (b : Bool) (h : (k == k2 && x == y) = b) (w : World) :
   Calls Tryz.prog 232 #[.agg #[.int .i64 k,.int .i64 p,.int .i64 q,.int .i64 n,.string ⟨x.toArray⟩],.int .i64 k2,.string ⟨y.toArray⟩] w fun e w' => e = .returned (.bool b) ∧ Below w.heap.size w w':=by
 have H:=Lh h
 clear h
 go_enter Tryz.func232,Tryz.ntmps232
 go_wp2
 all_goals go_ret
 all_goals exact ⟨ret_bool (by rw [← H.out];simp_all),bel⟩
theorem begins_tok (t : Tok) (p q : Int) (b : Bool) (h : beginsS t = b) (w : World) :
   Calls Tryz.prog 185 #[.agg #[.int .i64 t.kind,.int .i64 p,.int .i64 q,.int .i64 t.n,.string ⟨t.s.toArray⟩]] w fun e w' => e = .returned (.bool b) ∧ Below w.heap.size w w':=by
 have H:=Lh h
 clear h
 go_enter Tryz.func185,Tryz.ntmps185
 go_wp2
 all_goals go_ret
 all_goals exact ⟨ret_bool (by rw [← H.out];simp_all [beginsS,wTrue,wFalse,wNull]),bel⟩
open Go.RowKit Fo
theorem ref_num (r : Nat) (t : Tok) (p q : Int) (h : t.n < 1 ∨ 8191 < t.n) (w : World) :
   Calls Tryz.prog 186 #[.pointer (some ⟨r,0,none⟩),.agg #[.int .i64 t.kind,.int .i64 p,.int .i64 q,.int .i64 t.n,.string ⟨t.s.toArray⟩]] w fun e w' => e = .returned (.tuple #[.agg #[.int .i64 0,.int .i64 0,.int .i64 0,.string ⟨#[]⟩,.slice none 0 0,.slice none 0 0],.bool false]) ∧ Below w.heap.size w w':=by
 rcases h with h | h
 · have h1 : decide (t.n < 1) = true:=by simpa using h
   go_enter Tryz.func186,Tryz.ntmps186
   go_wp2
   refine bodyPost_ret (v:=.tuple #[.agg #[.int .i64 0,.int .i64 0,.int .i64 0,.string ⟨#[]⟩,.slice none 0 0,.slice none 0 0],.bool false]) (by simp [results,Tryz.results186,go_sem]) rfl ⟨rfl,bel⟩
 · have h1 : decide (t.n < 1) = false:=by simp;omega
   have h2 : decide (8191 < t.n) = true:=by simpa using h
   go_enter Tryz.func186,Tryz.ntmps186
   go_wp2
   refine bodyPost_ret (v:=.tuple #[.agg #[.int .i64 0,.int .i64 0,.int .i64 0,.string ⟨#[]⟩,.slice none 0 0,.slice none 0 0],.bool false]) (by simp [results,Tryz.results186,go_sem]) rfl ⟨rfl,bel⟩
theorem ref_lex1 (r : Nat) (s : ByteArray) (a q : Nat) (t : Tok) (p : Int) (k : Int) (hq : q ≤ s.size) (hs : s.size ≤ 140737488355327) (m : Int) (w : World) (hm : MaxW w m) (hr : RdAt w r s a)
   (hn : 1 ≤ t.n ∧ t.n ≤ 8191) (h : (nextT (s.data.toList.drop q)).2 = .bad k) :
   Calls Tryz.prog 186 #[.pointer (some ⟨r,0,none⟩),.agg #[.int .i64 t.kind,.int .i64 p,.int .i64 q,.int .i64 t.n,.string ⟨t.s.toArray⟩]] w fun e w' => e = .returned (.tuple #[.agg #[.int .i64 0,.int .i64 0,.int .i64 0,.string ⟨#[]⟩,.slice none 0 0,.slice none 0 0],.bool false]) ∧ Below w.heap.size w w':=by
 have HN:=Lh (fun W (hW : MaxW W m) (hR : RdAt W r s a) => peek_bad r s a q k hq hs m W hW hR h)
 clear h
 have h1 : decide (t.n < 1) = false:=by simp;omega
 have h2 : decide (8191 < t.n) = false:=by simp;omega
 have hlt:=hr.lt
 go_enter Tryz.func186,Tryz.ntmps186
 go_wp2_with fail
 refine (HN.out _ (hm.below bel) (hr.below bel)).mono ?_
 rintro e w1 ⟨rfl,hb⟩
 obtain ⟨hc,hf⟩:=bcell hb
 have hz : w.heap.size + 1 < w1.heap.size:=by have:=hb.size;simp at this;omega
 go_wp2
 refine bodyPost_ret (v:=.tuple #[.agg #[.int .i64 0,.int .i64 0,.int .i64 0,.string ⟨#[]⟩,.slice none 0 0,.slice none 0 0],.bool false]) (by simp [results,Tryz.results186,go_sem,hc,hf,hz]) rfl ⟨rfl,bel⟩
theorem ref_gen (r : Nat) (s : ByteArray) (a q : Nat) (t : Tok) (p : Int) (hq : q ≤ s.size) (hs : s.size ≤ 140737488355327) (m : Int) (w : World) (hm : MaxW w m) (hr : RdAt w r s a) (hn : 1 ≤ t.n ∧ t.n ≤ 8191) (g : Tok) (h : (nextT (s.data.toList.drop q)).2 = .good g) (hg : g.kind ≠ 1 ∨ g.n < 0 ∨ 65535 < g.n) :
   Calls Tryz.prog 186 #[.pointer (some ⟨r,0,none⟩),.agg #[.int .i64 t.kind,.int .i64 p,.int .i64 q,.int .i64 t.n,.string ⟨t.s.toArray⟩]] w fun e w' => e = .returned (.tuple #[.agg #[.int .i64 0,.int .i64 0,.int .i64 0,.string ⟨#[]⟩,.slice none 0 0,.slice none 0 0],.bool false]) ∧ Below w.heap.size w w':=by
 have HN:=Lh (fun W (hW : MaxW W m) (hR : RdAt W r s a) => peek_good r s a q _ g hq hs m W hW hR h rfl)
 obtain ⟨p1,hp1⟩ : ∃ p1,q + (nextT (s.data.toList.drop q)).1 = p1:=⟨_,rfl⟩
 obtain ⟨q1,hq1⟩ : ∃ q1,p1 + g.len = q1:=⟨_,rfl⟩
 simp only [hp1,hq1] at HN
 have hq1s : q1 ≤ s.size:=by
   have:=(nextT_good h).1
   rw [List.length_drop] at this
   have h2 : s.data.toList.length = s.size:=rfl
   omega
 clear h hp1 hq1
 by_cases k1 : g.kind = 1
 · have t1 : (g.kind != 1) = false:=by simpa using k1
   by_cases k2 : g.n < 0
   · have t2 : decide (g.n < 0) = true:=by simpa using k2
     clear hg k1
     have h1 : decide (t.n < 1) = false:=by simp;omega
     have h2 : decide (8191 < t.n) = false:=by simp;omega
     have hlt:=hr.lt
     go_enter Tryz.func186,Tryz.ntmps186
     go_wp2_with fail
     refine (HN.out _ (hm.below bel) (hr.below bel)).mono ?_
     rintro e w1 ⟨rfl,hb⟩
     obtain ⟨hc,hf⟩:=bcell hb
     have hz : w.heap.size + 1 < w1.heap.size:=by have:=hb.size;simp at this;omega
     go_wp2
     refine bodyPost_ret (v:=.tuple #[.agg #[.int .i64 0,.int .i64 0,.int .i64 0,.string ⟨#[]⟩,.slice none 0 0,.slice none 0 0],.bool false]) (by simp [results,Tryz.results186,go_sem,hc,hf,hz]) rfl ⟨rfl,bel⟩
   · have t2 : decide (g.n < 0) = false:=by simpa using k2
     have t3 : decide (65535 < g.n) = true:=by simp;omega
     clear hg k1
     have h1 : decide (t.n < 1) = false:=by simp;omega
     have h2 : decide (8191 < t.n) = false:=by simp;omega
     have hlt:=hr.lt
     go_enter Tryz.func186,Tryz.ntmps186
     go_wp2_with fail
     refine (HN.out _ (hm.below bel) (hr.below bel)).mono ?_
     rintro e w1 ⟨rfl,hb⟩
     obtain ⟨hc,hf⟩:=bcell hb
     have hz : w.heap.size + 1 < w1.heap.size:=by have:=hb.size;simp at this;omega
     go_wp2
     refine bodyPost_ret (v:=.tuple #[.agg #[.int .i64 0,.int .i64 0,.int .i64 0,.string ⟨#[]⟩,.slice none 0 0,.slice none 0 0],.bool false]) (by simp [results,Tryz.results186,go_sem,hc,hf,hz]) rfl ⟨rfl,bel⟩
 · have t1 : (g.kind != 1) = true:=by simpa using k1
   clear hg k1
   have h1 : decide (t.n < 1) = false:=by simp;omega
   have h2 : decide (8191 < t.n) = false:=by simp;omega
   have hlt:=hr.lt
   go_enter Tryz.func186,Tryz.ntmps186
   go_wp2_with fail
   refine (HN.out _ (hm.below bel) (hr.below bel)).mono ?_
   rintro e w1 ⟨rfl,hb⟩
   obtain ⟨hc,hf⟩:=bcell hb
   have hz : w.heap.size + 1 < w1.heap.size:=by have:=hb.size;simp at this;omega
   go_wp2
   refine bodyPost_ret (v:=.tuple #[.agg #[.int .i64 0,.int .i64 0,.int .i64 0,.string ⟨#[]⟩,.slice none 0 0,.slice none 0 0],.bool false]) (by simp [results,Tryz.results186,go_sem,hc,hf,hz]) rfl ⟨rfl,bel⟩
theorem ref_lex2 (r : Nat) (s : ByteArray) (a q : Nat) (t : Tok) (p : Int) (hq : q ≤ s.size) (hs : s.size ≤ 140737488355327) (m : Int) (w : World) (hm : MaxW w m) (hr : RdAt w r s a) (hn : 1 ≤ t.n ∧ t.n ≤ 8191) (g : Tok) (h : (nextT (s.data.toList.drop q)).2 = .good g) (hg : g.kind = 1 ∧ 0 ≤ g.n ∧ g.n ≤ 65535) (k : Int) (h2 : (nextT ((s.data.toList.drop q).drop ((nextT (s.data.toList.drop q)).1 + g.len))).2 = .bad k) :
   Calls Tryz.prog 186 #[.pointer (some ⟨r,0,none⟩),.agg #[.int .i64 t.kind,.int .i64 p,.int .i64 q,.int .i64 t.n,.string ⟨t.s.toArray⟩]] w fun e w' => e = .returned (.tuple #[.agg #[.int .i64 0,.int .i64 0,.int .i64 0,.string ⟨#[]⟩,.slice none 0 0,.slice none 0 0],.bool false]) ∧ Below w.heap.size w w':=by
 have HN:=Lh (fun W (hW : MaxW W m) (hR : RdAt W r s a) => peek_good r s a q _ g hq hs m W hW hR h rfl)
 obtain ⟨p1,hp1⟩ : ∃ p1,q + (nextT (s.data.toList.drop q)).1 = p1:=⟨_,rfl⟩
 obtain ⟨q1,hq1⟩ : ∃ q1,p1 + g.len = q1:=⟨_,rfl⟩
 simp only [hp1,hq1] at HN
 have hq1s : q1 ≤ s.size:=by
   have:=(nextT_good h).1
   rw [List.length_drop] at this
   have h2 : s.data.toList.length = s.size:=rfl
   omega
 rw [List.drop_drop,show q + ((nextT (s.data.toList.drop q)).1 + g.len) = q1 by omega] at h2
 have HN2:=Lh (fun W (hW : MaxW W m) (hR : RdAt W r s a) => peek_bad r s a q1 k hq1s hs m W hW hR h2)
 clear h h2 hp1 hq1
 have t1 : (g.kind != 1) = false:=by simpa using hg.1
 have t2 : decide (g.n < 0) = false:=by simp;omega
 have t3 : decide (65535 < g.n) = false:=by simp;omega
 have hg2:=hg.2
 clear hg
 have h1 : decide (t.n < 1) = false:=by simp;omega
 have h2 : decide (8191 < t.n) = false:=by simp;omega
 have hlt:=hr.lt
 go_enter Tryz.func186,Tryz.ntmps186
 go_wp2_with fail
 refine (HN.out _ (hm.below bel) (hr.below bel)).mono ?_
 rintro e w1 ⟨rfl,hb⟩
 obtain ⟨hc,hf⟩:=bcell hb
 have hz : w.heap.size + 1 < w1.heap.size:=by have:=hb.size;simp at this;omega
 go_wp2_with fail
 refine (HN2.out _ (hm.below bel) (hr.below bel)).mono ?_
 rintro e w2 ⟨rfl,hb2⟩
 replace hb2:=hb2.mono (show w.heap.size + 2 ≤ _ by simp;omega)
 obtain ⟨hc2,hf2⟩:=bcellB hb2
 have hz2 : w.heap.size + 1 < w2.heap.size:=by have:=hb2.size;simp at this;omega
 have hz3 : w.heap.size < w2.heap.size:=by omega
 go_wp2
 refine bodyPost_ret (v:=.tuple #[.agg #[.int .i64 0,.int .i64 0,.int .i64 0,.string ⟨#[]⟩,.slice none 0 0,.slice none 0 0],.bool false]) (by simp [results,Tryz.results186,go_sem,hc2,hf2,hc,hf,hz,hz2]) rfl ⟨rfl,bel⟩
theorem ref_word (r : Nat) (s : ByteArray) (a q : Nat) (t : Tok) (p : Int) (hq : q ≤ s.size) (hs : s.size ≤ 140737488355327) (m : Int) (w : World) (hm : MaxW w m) (hr : RdAt w r s a) (hn : 1 ≤ t.n ∧ t.n ≤ 8191) (g : Tok) (h : (nextT (s.data.toList.drop q)).2 = .good g) (hg : g.kind = 1 ∧ 0 ≤ g.n ∧ g.n ≤ 65535) (u : Tok) (h2 : (nextT ((s.data.toList.drop q).drop ((nextT (s.data.toList.drop q)).1 + g.len))).2 = .good u) (hu : ¬ (u.kind = 5 ∧ u.s = [82])) :
   Calls Tryz.prog 186 #[.pointer (some ⟨r,0,none⟩),.agg #[.int .i64 t.kind,.int .i64 p,.int .i64 q,.int .i64 t.n,.string ⟨t.s.toArray⟩]] w fun e w' => e = .returned (.tuple #[.agg #[.int .i64 0,.int .i64 0,.int .i64 0,.string ⟨#[]⟩,.slice none 0 0,.slice none 0 0],.bool false]) ∧ Below w.heap.size w w':=by
 have HN:=Lh (fun W (hW : MaxW W m) (hR : RdAt W r s a) => peek_good r s a q _ g hq hs m W hW hR h rfl)
 obtain ⟨p1,hp1⟩ : ∃ p1,q + (nextT (s.data.toList.drop q)).1 = p1:=⟨_,rfl⟩
 obtain ⟨q1,hq1⟩ : ∃ q1,p1 + g.len = q1:=⟨_,rfl⟩
 simp only [hp1,hq1] at HN
 have hq1s : q1 ≤ s.size:=by
   have:=(nextT_good h).1
   rw [List.length_drop] at this
   have h2 : s.data.toList.length = s.size:=rfl
   omega
 rw [List.drop_drop,show q + ((nextT (s.data.toList.drop q)).1 + g.len) = q1 by omega] at h2
 obtain ⟨p2,hp2⟩ : ∃ p2,q1 + (nextT (s.data.toList.drop q1)).1 = p2:=⟨_,rfl⟩
 obtain ⟨q2,hq2⟩ : ∃ q2,p2 + u.len = q2:=⟨_,rfl⟩
 have HN2:=Lh (fun W (hW : MaxW W m) (hR : RdAt W r s a) => peek_good r s a q1 _ u hq1s hs m W hW hR h2 rfl)
 simp only [hp2,hq2] at HN2
 have HU:=Lh (show (u.kind == 5 && u.s == [82]) = false by rw [Bool.eq_false_iff];simpa using hu)
 clear h h2 hp1 hq1 hp2 hq2 hu
 have t1 : (g.kind != 1) = false:=by simpa using hg.1
 have t2 : decide (g.n < 0) = false:=by simp;omega
 have t3 : decide (65535 < g.n) = false:=by simp;omega
 have hg2:=hg.2
 clear hg
 have h1 : decide (t.n < 1) = false:=by simp;omega
 have h2 : decide (8191 < t.n) = false:=by simp;omega
 have hlt:=hr.lt
 go_enter Tryz.func186,Tryz.ntmps186
 go_wp2_with fail
 refine (HN.out _ (hm.below bel) (hr.below bel)).mono ?_
 rintro e w1 ⟨rfl,hb⟩
 obtain ⟨hc,hf⟩:=bcell hb
 have hz : w.heap.size + 1 < w1.heap.size:=by have:=hb.size;simp at this;omega
 go_wp2_with fail
 refine (HN2.out _ (hm.below bel) (hr.below bel)).mono ?_
 rintro e w2 ⟨rfl,hb2⟩
 replace hb2:=hb2.mono (show w.heap.size + 2 ≤ _ by simp;omega)
 obtain ⟨hc2,hf2⟩:=bcellB hb2
 have hz2 : w.heap.size + 1 < w2.heap.size:=by have:=hb2.size;simp at this;omega
 have hz3 : w.heap.size < w2.heap.size:=by omega
 go_wp2_with fail
 refine (word_in' _ _ _ _ _ _ [82] false HU.out _).mono ?_
 rintro e w3 ⟨rfl,hb3⟩
 replace hb3:=hb2.trans ((((Below.refl _ w2).alloc (show w.heap.size + 2 ≤ _ by omega) _)).trans (hb3.mono (by simp;omega)))
 obtain ⟨hc3,hf3⟩:=bcellB hb3
 have hz4 : w.heap.size + 1 < w3.heap.size:=by have:=hb3.size;simp at this;omega
 have hz5 : w.heap.size < w3.heap.size:=by omega
 go_wp2
 refine bodyPost_ret (v:=.tuple #[.agg #[.int .i64 0,.int .i64 0,.int .i64 0,.string ⟨#[]⟩,.slice none 0 0,.slice none 0 0],.bool false]) (by simp [results,Tryz.results186,go_sem,hc3,hf3,hc,hf,hz,hz4]) rfl ⟨rfl,bel⟩
theorem ref_good (r : Nat) (s : ByteArray) (a q : Nat) (t : Tok) (p : Int) (hq : q ≤ s.size) (hs : s.size ≤ 140737488355327) (m : Int) (w : World) (hm : MaxW w m) (hr : RdAt w r s a) (hn : 1 ≤ t.n ∧ t.n ≤ 8191) (g : Tok) (h : (nextT (s.data.toList.drop q)).2 = .good g) (hg : g.kind = 1 ∧ 0 ≤ g.n ∧ g.n ≤ 65535) (u : Tok) (h2 : (nextT ((s.data.toList.drop q).drop ((nextT (s.data.toList.drop q)).1 + g.len))).2 = .good u) (hu : u.kind = 5 ∧ u.s = [82]) :
   Calls Tryz.prog 186 #[.pointer (some ⟨r,0,none⟩),.agg #[.int .i64 t.kind,.int .i64 p,.int .i64 q,.int .i64 t.n,.string ⟨t.s.toArray⟩]] w fun e w' => ∃ z : Nat,z ≤ s.size ∧ s.data.toList.drop z = ((s.data.toList.drop q).drop ((nextT (s.data.toList.drop q)).1 + g.len)).drop ((nextT ((s.data.toList.drop q).drop ((nextT (s.data.toList.drop q)).1 + g.len))).1 + u.len) ∧
     e = .returned (.tuple #[.agg #[.int .i64 8,.int .i64 t.n,.int .i64 g.n,.string ⟨#[]⟩,.slice none 0 0,.slice none 0 0],.bool true]) ∧ RdAt w' r s z ∧ Bes r w w':=by
 have HN:=Lh (fun W (hW : MaxW W m) (hR : RdAt W r s a) => peek_good r s a q _ g hq hs m W hW hR h rfl)
 obtain ⟨p1,hp1⟩ : ∃ p1,q + (nextT (s.data.toList.drop q)).1 = p1:=⟨_,rfl⟩
 obtain ⟨q1,hq1⟩ : ∃ q1,p1 + g.len = q1:=⟨_,rfl⟩
 simp only [hp1,hq1] at HN
 have hq1s : q1 ≤ s.size:=by
   have:=(nextT_good h).1
   rw [List.length_drop] at this
   have h2 : s.data.toList.length = s.size:=rfl
   omega
 have hdd : (s.data.toList.drop q).drop ((nextT (s.data.toList.drop q)).1 + g.len) = s.data.toList.drop q1:=by rw [List.drop_drop];congr 1;omega
 rw [hdd] at h2
 rw [hdd]
 clear hdd
 obtain ⟨p2,hp2⟩ : ∃ p2,q1 + (nextT (s.data.toList.drop q1)).1 = p2:=⟨_,rfl⟩
 obtain ⟨q2,hq2⟩ : ∃ q2,p2 + u.len = q2:=⟨_,rfl⟩
 have HN2:=Lh (fun W (hW : MaxW W m) (hR : RdAt W r s a) => peek_good r s a q1 _ u hq1s hs m W hW hR h2 rfl)
 simp only [hp2,hq2] at HN2
 have hq2s : q2 ≤ s.size:=by
   have:=(nextT_good h2).1
   rw [List.length_drop] at this
   have h2 : s.data.toList.length = s.size:=rfl
   omega
 have HZ:=Lh (show s.data.toList.drop q2 = (s.data.toList.drop q1).drop ((nextT (s.data.toList.drop q1)).1 + u.len) by rw [List.drop_drop];congr 1;omega)
 have HU:=Lh (show (u.kind == 5 && u.s == [82]) = true by simp [hu])
 clear h h2 hp1 hq1 hp2 hq2 hu
 have hf0:=hr.frozen 1
 have hc0:=hr.cell1
 have t1 : (g.kind != 1) = false:=by simpa using hg.1
 have t2 : decide (g.n < 0) = false:=by simp;omega
 have t3 : decide (65535 < g.n) = false:=by simp;omega
 have hg2:=hg.2
 clear hg
 have h1 : decide (t.n < 1) = false:=by simp;omega
 have h2 : decide (8191 < t.n) = false:=by simp;omega
 have hlt:=hr.lt
 go_enter Tryz.func186,Tryz.ntmps186
 go_wp2_with fail
 refine (HN.out _ (hm.below bel) (hr.below bel)).mono ?_
 rintro e w1 ⟨rfl,hb⟩
 obtain ⟨hc,hf⟩:=bcell hb
 have hz : w.heap.size + 1 < w1.heap.size:=by have:=hb.size;simp at this;omega
 go_wp2_with fail
 refine (HN2.out _ (hm.below bel) (hr.below bel)).mono ?_
 rintro e w2 ⟨rfl,hb2⟩
 obtain ⟨hc2,hf2⟩:=bcell hb2
 have hz2 : w1.heap.size + 1 ≤ w2.heap.size:=by have:=hb2.size;simp at this;omega
 have a1 : r < w2.heap.size:=by omega
 have a2 : w.heap.size < w2.heap.size:=by omega
 have a3 : w.heap.size + 1 < w2.heap.size:=by omega
 have a4 : w1.heap.size < w2.heap.size:=by omega
 have a5 : r < w1.heap.size:=by omega
 have a6 : w.heap.size < w1.heap.size:=by omega
 go_wp2_with fail
 refine (word_in' _ _ _ _ _ _ [82] true HU.out _).mono ?_
 rintro e w3 ⟨rfl,hb3⟩
 obtain ⟨hc3,hf3⟩:=bcell hb3
 have hz3 : w2.heap.size + 1 ≤ w3.heap.size:=by have:=hb3.size;simp at this;omega
 have e1 : ¬ r = w.heap.size:=by omega
 have e2 : ¬ w.heap.size = r:=by omega
 have e3 : ¬ r = w.heap.size + 1:=by omega
 have e4 : ¬ w.heap.size + 1 = r:=by omega
 have e5 : ¬ r = w1.heap.size:=by omega
 have e6 : ¬ w1.heap.size = r:=by omega
 have b1 : r < w2.heap.size + 1:=by omega
 have b2 : w.heap.size < w2.heap.size + 1:=by omega
 have b3 : w.heap.size + 1 < w2.heap.size + 1:=by omega
 have b4 : w1.heap.size < w2.heap.size + 1:=by omega
 have b5 : r < w1.heap.size + 1:=by omega
 have b6 : w.heap.size < w1.heap.size + 1:=by omega
 have b7 : r < w.heap.size + 1 + 1:=by omega
 have f1 : w3.cell? ⟨r,1,none⟩ = some (.int .i64 a):=by
   rw [hc3 _ _ (by simp;omega)];simp [go_sem, *]
 have f2 : w3.frozen? ⟨r,1,none⟩ = false:=by
   rw [hf3 _ _ (by simp;omega)];simp [go_sem, *]
 have f3 : w3.cell? ⟨w2.heap.size,2,none⟩ = some (.int .i64 q2):=by
   rw [hc3 _ _ (by simp)];simp [go_sem]
 have f4 : w3.cell? ⟨w.heap.size,3,none⟩ = some (.int .i64 t.n):=by
   rw [hc3 _ _ (by simp;omega)];simp [go_sem, *]
 have f5 : w3.cell? ⟨w1.heap.size,3,none⟩ = some (.int .i64 g.n):=by
   rw [hc3 _ _ (by simp;omega)];simp [go_sem, *]
 have f6 : ∀ o,w3.cell? ⟨w.heap.size + 1,o,none⟩ = (((w.alloc (.cells #[.int .i64 t.kind,.int .i64 p,.int .i64 q,.int .i64 t.n,.string ⟨t.s.toArray⟩] 96)).alloc (.cells #[.int .i64 0,.int .i64 0,.int .i64 0,.string ⟨#[]⟩,.slice none 0 0,.slice none 0 0] 36))).cell? ⟨w.heap.size + 1,o,none⟩:=fun o => by
   rw [hc3 _ _ (by simp;omega)];simp [go_sem, *]
 have f7 : ∀ o,w3.frozen? ⟨w.heap.size + 1,o,none⟩ = false:=fun o => by
   rw [hf3 _ _ (by simp;omega)];simp [go_sem, *]
 have hbw : Below w.heap.size w w3:=bel
 have hR3 : RdAt w3 r s a:=hr.below hbw
 clear hc2 hf2 hc3 hf3 hc hf a1 a2 a3 a4 b1 b2 b3 b4 b5 b6 b7
 go_wp2_with fail
 obtain ⟨w5,hw5⟩ : ∃ w5,w3.setCell ⟨r,1,none⟩ (.int .i64 q2) = w5:=⟨_,rfl⟩
 have g6 : ∀ o,w5.cell? ⟨w.heap.size + 1,o,none⟩ = w3.cell? ⟨w.heap.size + 1,o,none⟩:=fun o => by
   rw [← hw5];exact World.cell?_of_block (Below.heap_setCell _ _ _ _ (by show w.heap.size + 1 ≠ r;omega))
 have g7 : ∀ o,w5.frozen? ⟨w.heap.size + 1,o,none⟩ = w3.frozen? ⟨w.heap.size + 1,o,none⟩:=fun o => by
   rw [← hw5];exact World.frozen?_of_block (Below.heap_setCell _ _ _ _ (by show w.heap.size + 1 ≠ r;omega))
 have hR5 : RdAt w5 r s q2:=by rw [← hw5];exact hR3.set
 have hs5 : Bes r w w5:=by rw [← hw5];exact (Bes.of_below hbw).setCell _ _
 have hz5 : w3.heap.size = w5.heap.size:=by rw [← hw5];simp [World.setCell]
 rw [hw5]
 clear hw5 f1 f2 f3 f4 f5
 refine (vref_in _ _ _).mono ?_
 rintro e w6 ⟨rfl,hb6⟩
 have hR6:=hR5.below hb6
 have hs6 : Bes r w w6:=hs5.below hb6
 have h6 : ∀ o,w6.cell? ⟨w.heap.size + 1,o,none⟩ = w5.cell? ⟨w.heap.size + 1,o,none⟩:=fun o => hb6.cell (p:=⟨w.heap.size + 1,o,none⟩) (by show w.heap.size + 1 < _;omega)
 have h7 : ∀ o,w6.frozen? ⟨w.heap.size + 1,o,none⟩ = w5.frozen? ⟨w.heap.size + 1,o,none⟩:=fun o => hb6.frozen (p:=⟨w.heap.size + 1,o,none⟩) (by show w.heap.size + 1 < _;omega)
 have hz6 : w.heap.size + 1 < w6.heap.size:=by have:=hb6.size;omega
 clear hz5 hb6
 unfold obV
 go_wp2
 refine bodyPost_ret (v:=.tuple #[.agg #[.int .i64 8,.int .i64 t.n,.int .i64 g.n,.string ⟨#[]⟩,.slice none 0 0,.slice none 0 0],.bool true]) (by simp [results,Tryz.results186,go_sem,h6,h7,g6,g7,f6,f7]) rfl ⟨q2,hq2s,HZ.out,rfl,hR6.belowB (B:=r + 1) belr (by omega),?_⟩
 (repeat' (first | (with_reducible exact hs6) | (with_reducible refine Bes.setCell_new ?_ ?_ _) | (show _ ≤ _;simp;done) | (show _ ≤ _;simp;omega) | omega))
end Go.Proofs.YtinafodpgjbedaaGreatDoor
