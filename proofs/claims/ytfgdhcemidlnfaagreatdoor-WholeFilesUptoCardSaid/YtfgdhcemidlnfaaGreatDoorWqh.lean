/- Parts of the proof: GDo RkD RkG. -/
import Derived.Test.YtfgdhcemidlnfaaGreatDoorWqg
import Derived.Test.YtfgdhcemidlnfaaGreatDoorWqc
import Derived.Test.YtfgdhcemidlnfaaGreatDoorWqd
import Derived.Test.YtfgdhcemidlnfaaGreatDoorWqb
import Derived.BigQuiet
set_option linter.all false
set_option maxRecDepth 100000
set_option maxHeartbeats 8000000
namespace Go.Proofs.YtfgdhcemidlnfaaGreatDoor
open Go.RowKit Fo
theorem tame_of {S : Nat → Prop} {w : World} : ∀ (d n : Nat) (cs : List Value) (o : Ob),ObjAt S d w cs o → checkB n o = 0 → tameO d o
 | 0,_,_,_,h,_ => h.elim
 | d + 1,n,cs,o,h,hc => by
   obtain ⟨kv,dv,_,_,h3⟩:=h
   cases n with
   | zero => unfold checkB at hc;cases hc
   | succ n =>
     have hk:=(checkB_iff n o).1 hc
     refine ⟨?_,Nat.le_trans hk.many (by decide),fun x hx => ?_⟩
     · have hu:=hk.uses
       by_cases h79 : o.kind = 7 ∨ o.kind = 9
       · have:=((keysB_iff o h79).1 hk.keys).len
         have:=hk.many
         omega
       · have he : o.keys = [] := by
           rw [← usesP_eq] at hu
           unfold usesP at hu
           obtain ⟨⟨un,ug,us,uk,ud,ok⟩,hT⟩ : ∃ u,usedV o.kind = u:=⟨_,rfl⟩
           have huk:=used_keys hT
           rw [hT] at hu
           rw [decide_eq_false h79] at huk
           subst huk
           simp at hu
           simp_all
         rw [he];decide
     · rcases h3 with ⟨e,_⟩ | ⟨b,off,c,_,_,h6⟩
       · rw [e] at hx;cases hx
       · obtain ⟨i,hi,rfl⟩:=List.mem_iff_getElem.1 hx
         obtain ⟨ks,_,_,g3⟩:=h6 i hi
         exact tame_of d n ks _ g3 (hk.kids _ (List.getElem_mem hi))
def kindV (r : Option Ob) : L:=match r with | some t => if t.kind = 5 then t.s else [] | none => []
def kindS (o : Ob) : L:=kindV (getO o wType)
theorem holdB_kind (o : Ob) : holdB o = (o.kind == 9 && (kindS o == wObjStm || kindS o == wXRef)):=by
 unfold holdB kindS
 cases getO o wType with
 | none => rfl
 | some t =>
   unfold kindV
   by_cases h : t.kind = 5
   · simp [h]
   · have e : (t.kind == 5) = false:=by simpa using h
     have f : (([] : L) == wObjStm || ([] : L) == wXRef) = false:=by decide
     dsimp only
     rw [e,if_neg h,f]
     simp
theorem kind_in (S : Nat → Prop) (d : Nat) (w : World) (cs : List Value) (o : Ob) (h : ObjAt S (d + 1) w cs o) (ht : tameO (d + 1) o) (hS : ∀ b, S b → b < w.heap.size) :
   Calls Tryz.prog 206 #[.agg cs.toArray] w fun e w' => e = .returned (.string ⟨(kindS o).toArray⟩) ∧ Below w.heap.size w w':=by
 have HG:=Lh (fun (W : World) (hW : Below w.heap.size w W) => vGet_in S d W cs o wType (h.kept (fun b h => hW.block b (hS b h)) (d + 1)) ht (fun b h => Nat.lt_of_lt_of_le (hS b h) hW.size))
 obtain ⟨p1,n1,c1,p2,n2,c2,rfl⟩:=h.shape
 unfold objCells at HG
 unfold objCells
 clear h ht hS
 obtain ⟨R,hR⟩ : ∃ R,getO o wType = R:=⟨_,rfl⟩
 rw [hR] at HG
 have HK:=Lh (show kindS o = kindV R by unfold kindS;rw [hR])
 clear hR
 go_enter Tryz.func206,Tryz.ntmps206
 go_wp2_with fail
 refine (HG.out _ bel).mono ?_
 cases R with
 | none =>
   rintro e w1 ⟨rfl,hb1⟩
   have hz1:=hb1.size
   simp at hz1
   go_wp2
   go_ret
   exact ⟨by rw [HK.out];rfl,bel⟩
 | some t =>
   rintro e w1 ⟨q1,e1,q2,e2,rfl,_,hb1⟩
   have hz1:=hb1.size
   simp at hz1
   by_cases h5 : t.kind = 5
   · have e5 : (t.kind != 5) = false:=by simpa using h5
     have HK2:=Lh (show kindS o = t.s by rw [HK.out];exact if_pos h5)
     clear h5 HK
     go_wp2
     go_ret
     exact ⟨by rw [HK2.out];rfl,bel⟩
   · have e5 : (t.kind != 5) = true:=by simpa using h5
     have HK2:=Lh (show kindS o = [] by rw [HK.out];exact if_neg h5)
     clear h5 HK
     go_wp2
     go_ret
     exact ⟨by rw [HK2.out];rfl,bel⟩
theorem w_objstm : wObjStm = [79,98,106,83,116,109]:=rfl
theorem w_xref : wXRef = [88,82,101,102]:=rfl
theorem holds_in (S : Nat → Prop) (d : Nat) (w : World) (cs : List Value) (o : Ob) (h : ObjAt S (d + 1) w cs o) (ht : tameO (d + 1) o) (hS : ∀ b, S b → b < w.heap.size) :
   Calls Tryz.prog 167 #[.agg cs.toArray] w fun e w' => e = .returned (.bool (holdB o)) ∧ Below w.heap.size w w':=by
 have HG:=Lh (fun (W : World) (hW : Below w.heap.size w W) => kind_in S d W cs o (h.kept (fun b h => hW.block b (hS b h)) (d + 1)) ht (fun b h => Nat.lt_of_lt_of_le (hS b h) hW.size))
 obtain ⟨p1,n1,c1,p2,n2,c2,rfl⟩:=h.shape
 unfold objCells at HG
 unfold objCells
 clear h ht hS
 have HH:=Lh (holdB_kind o)
 rw [w_objstm,w_xref] at HH
 obtain ⟨K,hk0⟩ : ∃ K,o.kind = K:=⟨_,rfl⟩
 obtain ⟨t,ht0⟩ : ∃ t,kindS o = t:=⟨_,rfl⟩
 rw [hk0,ht0] at HH
 rw [hk0,ht0] at HG
 rw [hk0]
 clear hk0 ht0
 by_cases h9 : K = 9
 · subst h9
   cases h1 : (t == ([79,98,106,83,116,109] : L))
   · have HR:=Lh (show holdB o = (t == ([88,82,101,102] : L)) by rw [HH.out,h1];simp)
     go_enter Tryz.func167,Tryz.ntmps167
     go_wp2_with fail
     refine (HG.out _ bel).mono ?_
     rintro e w1 ⟨rfl,hb1⟩
     have hz1:=hb1.size
     simp at hz1
     obtain ⟨hc1,hf1⟩:=bcell hb1
     go_wp2_with fail
     refine (HG.out _ bel).mono ?_
     rintro e w2 ⟨rfl,hb2⟩
     have hz2:=hb2.size
     go_wp2
     go_ret
     exact ⟨ret_bool HR.out.symm,bel⟩
   · have HR:=Lh (show holdB o = true by rw [HH.out,h1];simp)
     go_enter Tryz.func167,Tryz.ntmps167
     go_wp2_with ((go_at_call 206;refine (HG.out _ bel).mono ?_);rintro e w1 ⟨rfl,hb1⟩;have hz1:=hb1.size;simp at hz1)
     go_ret
     exact ⟨ret_bool HR.out.symm,bel⟩
 · have e9 : (K == 9) = false:=by simpa using h9
   have HR:=Lh (show holdB o = false by rw [HH.out,e9];simp)
   clear h9
   go_enter Tryz.func167,Tryz.ntmps167
   go_wp2
   go_ret
   exact ⟨ret_bool HR.out.symm,bel⟩
theorem numbers_in (i : It) (p1 p2 : Option Addr) (n1 c1 n2 c2 : Nat) (w : World) :
   Calls Tryz.prog 120 #[.agg #[.int .i64 i.num,.int .i64 i.gen,.int .i64 i.ob.kind,.int .i64 i.ob.n,.int .i64 i.ob.g,.string ⟨i.ob.s.toArray⟩,.slice p1 n1 c1,.slice p2 n2 c2]] w fun e w' => e = .returned (.bool (numsB i)) ∧ Below w.heap.size w w':=by
 have HN:=Lh (show numsB i = (decide (1 ≤ i.num) && decide (i.num ≤ 8191) && decide (0 ≤ i.gen) && decide (i.gen ≤ 65535)) from rfl)
 generalize i.num = A at *
 generalize i.gen = B at *
 cases h1 : decide (1 ≤ A)
 · have HR:=Lh (show numsB i = false by rw [HN.out,h1];rfl)
   clear HN
   go_enter Tryz.func120,Tryz.ntmps120
   go_wp2
   go_ret
   exact ⟨ret_bool HR.out.symm,bel⟩
 cases h2 : decide (A ≤ 8191)
 · have HR:=Lh (show numsB i = false by rw [HN.out,h1,h2];rfl)
   clear HN
   go_enter Tryz.func120,Tryz.ntmps120
   go_wp2
   go_ret
   exact ⟨ret_bool HR.out.symm,bel⟩
 cases h3 : decide (0 ≤ B)
 · have HR:=Lh (show numsB i = false by rw [HN.out,h1,h2,h3];rfl)
   clear HN
   go_enter Tryz.func120,Tryz.ntmps120
   go_wp2
   go_ret
   exact ⟨ret_bool HR.out.symm,bel⟩
 · have HR:=Lh (show numsB i = decide (B ≤ 65535) by rw [HN.out,h1,h2,h3];rfl)
   clear HN
   go_enter Tryz.func120,Tryz.ntmps120
   go_wp2
   go_ret
   exact ⟨ret_bool HR.out.symm,bel⟩
theorem content_in (S : Nat → Prop) (d : Nat) (w : World) (cs : List Value) (i : It) (a b : Value) (ha : a = .int .i64 i.num) (hb : b = .int .i64 i.gen) (h : ObjAt S (d + 1) w cs i.ob) (hsm : smallO (d + 1) i.ob) (hS : ∀ b, S b → b < w.heap.size) :
   Calls Tryz.prog 121 #[.agg (a :: b :: cs).toArray] w fun e w' => e = .returned (.int .i64 (contB i.ob)) ∧ Below w.heap.size w w':=by
 subst ha hb
 have HC:=Lh (fun (W : World) (hW : Below w.heap.size w W) => vCheck_in S (d + 1) W cs i.ob (h.kept (fun b h => hW.block b (hS b h)) (d + 1)) hsm (fun b h => Nat.lt_of_lt_of_le (hS b h) hW.size))
 have HH:=Lh (fun (hc : checkB 24 i.ob = 0) (W : World) (hW : Below w.heap.size w W) => holds_in S d W cs i.ob (h.kept (fun b h => hW.block b (hS b h)) (d + 1)) (tame_of (d + 1) 24 cs i.ob h hc) (fun b h => Nat.lt_of_lt_of_le (hS b h) hW.size))
 obtain ⟨p1,n1,c1,p2,n2,c2,rfl⟩:=h.shape
 unfold objCells at HC HH
 unfold objCells
 clear h hsm hS
 have HB:=Lh (show contB i.ob = if checkB 24 i.ob ≠ 0 then checkB 24 i.ob else if i.ob.kind = 8 ∨ holdB i.ob then 10 else 0 from rfl)
 obtain ⟨C,hC⟩ : ∃ C,checkB 24 i.ob = C:=⟨_,rfl⟩
 obtain ⟨K,hk0⟩ : ∃ K,i.ob.kind = K:=⟨_,rfl⟩
 rw [hC,hk0] at HB
 rw [hC,hk0] at HC
 rw [hC,hk0] at HH
 rw [hk0]
 clear hC hk0
 by_cases hC0 : C = 0
 · subst hC0
   have HB2:=Lh (show contB i.ob = if K = 8 ∨ holdB i.ob then 10 else 0 by rw [HB.out];simp)
   clear HB
   by_cases h8 : K = 8
   · subst h8
     have HR:=Lh (show contB i.ob = 10 by rw [HB2.out];simp)
     go_enter Tryz.func121,Tryz.ntmps121
     go_wp2_with fail
     refine (HC.out _ bel).mono ?_
     rintro e w1 ⟨rfl,hb1⟩
     have hz1:=hb1.size
     simp at hz1
     obtain ⟨hc1,hf1⟩:=bcell hb1
     go_wp2
     go_ret
     exact ⟨ret_int HR.out.symm,bel⟩
   · have e8 : (K == 8) = false:=by simpa using h8
     cases hh : holdB i.ob
     all_goals
       rw [hh] at HB2 HH
       have HR:=Lh HB2.out
       simp only [h8,false_or,Bool.false_eq_true,if_false,if_true] at HR
       clear h8 HB2 hh
       go_enter Tryz.func121,Tryz.ntmps121
       go_wp2_with fail
       refine (HC.out _ bel).mono ?_
       rintro e w1 ⟨rfl,hb1⟩
       have hz1:=hb1.size
       simp at hz1
       obtain ⟨hc1,hf1⟩:=bcell hb1
       go_wp2_with fail
       refine (HH.out (by trivial) _ bel).mono ?_
       rintro e w2 ⟨rfl,hb2⟩
       have hz2:=hb2.size
       go_wp2
       go_ret
       exact ⟨ret_int HR.out.symm,bel⟩
 · have HR:=Lh (show contB i.ob = C by rw [HB.out,if_pos hC0])
   have eC : (C != 0) = true:=by simpa using hC0
   clear hC0
   go_enter Tryz.func121,Tryz.ntmps121
   go_wp2_with fail
   refine (HC.out _ bel).mono ?_
   rintro e w1 ⟨rfl,hb1⟩
   have hz1:=hb1.size
   simp at hz1
   go_wp2
   go_ret
   exact ⟨ret_int HR.out.symm,bel⟩
def ItemsAt (S : Nat → Prop) (d : Nat) (w : World) (v : Value) (l : List It) : Prop :=
 (l = [] ∧ ∃ p c,v = .slice p 0 c) ∨ ∃ b off c,v = .slice (some ⟨b,off,none⟩) l.length c ∧ S b ∧ ∀ j (hj : j < l.length),∃ v0 v1 v2 v3 v4 v5 : Value,
   w.cell? ⟨b,off + j * 8,none⟩ = some (.int .i64 l[j].num) ∧ w.cell? ⟨b,off + j * 8 + 1,none⟩ = some (.int .i64 l[j].gen) ∧
   w.cell? ⟨b,off + j * 8 + 2,none⟩ = some v0 ∧ w.cell? ⟨b,off + j * 8 + 3,none⟩ = some v1 ∧ w.cell? ⟨b,off + j * 8 + 4,none⟩ = some v2 ∧ w.cell? ⟨b,off + j * 8 + 5,none⟩ = some v3 ∧ w.cell? ⟨b,off + j * 8 + 6,none⟩ = some v4 ∧ w.cell? ⟨b,off + j * 8 + 7,none⟩ = some v5 ∧
   ObjAt S d w [v0,v1,v2,v3,v4,v5] l[j].ob
theorem ItemsAt.kept {S : Nat → Prop} {d : Nat} {w w' : World} {v : Value} {l : List It} (h : ItemsAt S d w v l) (hk : ∀ b,S b → w'.heap[b]? = w.heap[b]?) : ItemsAt S d w' v l:=by
 rcases h with h | ⟨b,off,c,h1,h2,h3⟩
 · exact .inl h
 · refine .inr ⟨b,off,c,h1,h2,fun j hj => ?_⟩
   obtain ⟨v0,v1,v2,v3,v4,v5,a0,a1,a2,a3,a4,a5,a6,a7,a8⟩:=h3 j hj
   have k:=fun o => World.cell?_of_block (a:=⟨b,o,none⟩) (hk b h2)
   exact ⟨v0,v1,v2,v3,v4,v5,(k _).trans a0,(k _).trans a1,(k _).trans a2,(k _).trans a3,(k _).trans a4,(k _).trans a5,(k _).trans a6,(k _).trans a7,a8.kept hk d⟩
theorem ItemsAt.slice {S : Nat → Prop} {d : Nat} {w : World} {v : Value} {l : List It} (h : ItemsAt S d w v l) : ∃ p c,v = .slice p l.length c:=by
 rcases h with ⟨rfl,p,c,h⟩ | ⟨b,off,c,h,_⟩
 · exact ⟨p,c,h⟩
 · exact ⟨_,_,h⟩
theorem ItemsAt.addr {S : Nat → Prop} {d n c : Nat} {w : World} {p : Option Addr} {l : List It} (h : ItemsAt S d w (.slice p n c) l) (hn : l.length = n) (k : Nat) (hk : k < n) : ∃ b off,p = some ⟨b,off,none⟩:=by
 rcases h with ⟨rfl,_⟩ | ⟨b,off,c',e,_⟩
 · simp at hn;omega
 · cases e;exact ⟨_,_,rfl⟩
theorem item_kid {S : Nat → Prop} {d : Nat} {w : World} {b off n c : Nat} {l : List It} (h : ItemsAt S d w (.slice (some ⟨b, off, none⟩) n c) l) (hn : l.length = n) (k : Nat) (hk : k < n) :
   ∃ (i : It) (p1 : Option Addr) (n1 c1 : Nat) (p2 : Option Addr) (n2 c2 : Nat),l[k]? = some i ∧ S b ∧ ObjAt S d w (objCells i.ob.kind i.ob.n i.ob.g i.ob.s (.slice p1 n1 c1) (.slice p2 n2 c2)) i.ob ∧
     w.cell? ⟨b,off + k * 8,none⟩ = some (.int .i64 i.num) ∧ w.cell? ⟨b,off + k * 8 + 1,none⟩ = some (.int .i64 i.gen) ∧
     w.cell? ⟨b,off + k * 8 + 2,none⟩ = some (.int .i64 i.ob.kind) ∧ w.cell? ⟨b,off + k * 8 + 3,none⟩ = some (.int .i64 i.ob.n) ∧ w.cell? ⟨b,off + k * 8 + 4,none⟩ = some (.int .i64 i.ob.g) ∧ w.cell? ⟨b,off + k * 8 + 5,none⟩ = some (.string ⟨i.ob.s.toArray⟩) ∧ w.cell? ⟨b,off + k * 8 + 6,none⟩ = some (.slice p1 n1 c1) ∧ w.cell? ⟨b,off + k * 8 + 7,none⟩ = some (.slice p2 n2 c2):=by
 rcases h with ⟨rfl,_⟩ | ⟨b',off',c',h1,h2,h3⟩
 · simp at hn;omega
 · cases h1
   have hk' : k < l.length:=by omega
   obtain ⟨v0,v1,v2,v3,v4,v5,a0,a1,a2,a3,a4,a5,a6,a7,a8⟩:=h3 k hk'
   obtain ⟨p1,n1,c1,p2,n2,c2,e⟩:=a8.shape
   unfold objCells at e
   simp only [List.cons.injEq,and_true] at e
   obtain ⟨rfl,rfl,rfl,rfl,rfl,rfl⟩:=e
   exact ⟨l[k],p1,n1,c1,p2,n2,c2,List.getElem?_eq_getElem hk',h2,a8,a0,a1,a2,a3,a4,a5,a6,a7⟩
theorem follow1_in (i : It) (p1 p2 : Option Addr) (n1 c1 n2 c2 : Nat) (N : Int) (B : Nat) (w : World) (hc : w.cell? ⟨B, 1, none⟩ = some (.int .i64 N)) (hb : B < w.heap.size) :
   Calls Tryz.prog 170 #[.agg #[.int .i64 i.num,.int .i64 i.gen,.int .i64 i.ob.kind,.int .i64 i.ob.n,.int .i64 i.ob.g,.string ⟨i.ob.s.toArray⟩,.slice p1 n1 c1,.slice p2 n2 c2],.pointer (some ⟨B,0,none⟩)] w fun e w' => e = .returned (.bool (i.num == N)) ∧ Below w.heap.size w w':=by
 have hne : ¬ B = w.heap.size:=by omega
 have hne2 : ¬ w.heap.size = B:=by omega
 go_enter Tryz.func170,Tryz.ntmps170
 go_wp2
 go_ret
 exact ⟨rfl,bel⟩
def ItAt (l : List It) (N z : Int) : Prop:=(z = -1 ∧ ∀ (k : Nat) (i : It),l[k]? = some i → i.num ≠ N) ∨ ∃ (k : Nat) (i : It),z = (k : Int) ∧ l[k]? = some i ∧ i.num = N ∧ ∀ (j : Nat) (y : It),j < k → l[j]? = some y → y.num ≠ N
theorem iindex_in (S : Nat → Prop) (d : Nat) (v : Value) (l : List It) (N : Int) (B : Nat) (w : World) (hv : ItemsAt S d w v l) (hl : l.length ≤ 1000000) (hS : ∀ b, S b → b < w.heap.size) (hc : w.cell? ⟨B, 1, none⟩ = some (.int .i64 N)) (hb : B < w.heap.size) :
   Calls Tryz.prog 169 #[v,.func (.func 170) #[] #[.pointer (some ⟨B,0,none⟩)]] w fun e w' => ∃ z,e = .returned (.int .i64 z) ∧ ItAt l N z ∧ Below w.heap.size w w':=by
 obtain ⟨p,cp,rfl⟩:=hv.slice
 obtain ⟨n,hn⟩ : ∃ n,l.length = n:=⟨_,rfl⟩
 have HV:=Lh hv
 rw [hn] at HV
 have HN:=Lh hn
 have HS:=Lh hS
 rw [hn]
 have hn1 : n ≤ 1000000:=by omega
 clear hv hn hS hl
 go_enter Tryz.func169,Tryz.ntmps169
 go_wp2
 go_loopw [8] (fun i wr => ∃ k : Nat,k ≤ n ∧ i = .int .i64 k ∧ Hid (∀ (j : Nat) (y : It),j < k → l[j]? = some y → y.num ≠ N) ∧ Below w.heap.size w wr) (fun i _ => n - (intOf i).toNat)
 case atStart => exact ⟨0,Nat.zero_le _,rfl,Lh (fun j _ h => absurd h (Nat.not_lt_zero _)),Below.refl _ _⟩
 case round =>
   obtain ⟨k,hk,rfl,HF,hbr⟩:=hrel
   have hzr:=hbr.size
   by_cases hlk : k < n
   · have hvr : ItemsAt S d wr (.slice p n cp) l:=HV.out.kept (fun b h => hbr.block b (HS.out b h))
     obtain ⟨b,off,rfl⟩:=hvr.addr HN.out k hlk
     obtain ⟨i,p1,n1,c1,p2,n2,c2,hi,hsb,_,a0,a1,a2,a3,a4,a5,a6,a7⟩:=item_kid hvr HN.out k hlk
     have cb : wr.cell? ⟨B,1,none⟩ = some (.int .i64 N):=(World.cell?_of_block (hbr.block B hb)).trans hc
     have hblt : b < wr.heap.size:=Nat.lt_of_lt_of_le (HS.out b hsb) hzr
     have HI:=Lh hi
     clear hvr hi hsb
     by_cases hdc : i.num = N
     · have e1 : (i.num == N) = true:=by simpa using hdc
       have HX:=Lh (show ItAt l N (k : Int) from .inr ⟨k,i,rfl,HI.out,hdc,HF.out⟩)
       clear hdc
       go_wp2_with fail
       refine (follow1_in i p1 p2 n1 c1 n2 c2 N B wr cb (by omega)).mono ?_
       rw [e1]
       rintro e w1 ⟨rfl,hb1⟩
       have HB1:=Lh (hbr.trans (hb1.mono hzr))
       go_wp2
       go_ret
       exact ⟨_,rfl,HX.out,HB1.out⟩
     · have e1 : (i.num == N) = false:=by simpa using hdc
       have HX:=Lh (show ∀ (j : Nat) (y : It),j < k + 1 → l[j]? = some y → y.num ≠ N from fun j y hjk hy => by
         by_cases h : j < k
         · exact HF.out j y h hy
         · obtain rfl : j = k:=by omega
           rw [HI.out] at hy
           cases hy
           exact hdc)
       clear hdc
       go_wp2_with fail
       refine (follow1_in i p1 p2 n1 c1 n2 c2 N B wr cb (by omega)).mono ?_
       rw [e1]
       rintro e w1 ⟨rfl,hb1⟩
       have HB1:=Lh (hbr.trans (hb1.mono hzr))
       go_wp2
       go_roundw
       case rel => exact ⟨k + 1,by omega,by go_num,HX,HB1.out⟩
       case measure => simp [intOf];omega
   · have HX := Lib.hid (show ItAt l N (-1) from .inl ⟨rfl, fun j y hj => by
       have h1:=(List.getElem?_eq_some_iff.1 hj).1
       rw [HN.out] at h1
       exact HF.out j y (by omega) hj⟩)
     go_wp2
     go_ret
     exact ⟨_,rfl,HX.out,hbr⟩
theorem find_at {l : List It} {N z : Int} (h : ItAt l N z) : (z = -1 ∧ l.find? (fun i => i.num == N) = none) ∨ ∃ (k : Nat) (i : It),z = (k : Int) ∧ l[k]? = some i ∧ l.find? (fun i => i.num == N) = some i:=by
 rcases h with ⟨rfl,h⟩ | ⟨k,i,rfl,h1,h2,h3⟩
 · refine .inl ⟨rfl,List.find?_eq_none.2 fun x hx => ?_⟩
   obtain ⟨k,hk,rfl⟩:=List.mem_iff_getElem.1 hx
   simpa using h k _ (List.getElem?_eq_getElem hk)
 · obtain ⟨hk,he⟩:=List.getElem?_eq_some_iff.1 h1
   refine .inr ⟨k,i,rfl,h1,List.find?_eq_some_iff_getElem.2 ⟨by simpa using h2,k,hk,he,fun j hj => ?_⟩⟩
   have hj2 : j < l.length:=by omega
   simpa using h3 j _ hj (List.getElem?_eq_getElem hj2)
theorem CopyOf.zero (d : Nat) {w w' : World} (hb : Below w.heap.size w w') : CopyOf (d + 1) w .zero (.returned (.agg #[.int .i64 0,.int .i64 0,.int .i64 0,.string ⟨#[]⟩,.slice none 0 0,.slice none 0 0])) w' :=
 ⟨none,0,none,0,rfl,⟨.slice none 0 0,.slice none 0 0,rfl,.inl ⟨rfl,none,0,rfl⟩,.inl ⟨rfl,none,0,rfl⟩⟩,hb⟩
def folV (r : Option It) (g : Int) : Ob:=match r with | none => .zero | some i => if i.gen = g then i.ob else .zero
theorem followO_ref (l : List It) (o : Ob) (h : o.kind = 8) : followO l o = folV (l.find? (fun i => i.num == o.n)) o.g:=by
 unfold followO folV
 rw [if_neg (by simp [h])]
 cases l.find? (fun i => i.num == o.n) <;> rfl
theorem followO_own (l : List It) (o : Ob) (h : ¬ o.kind = 8) : followO l o = o:=by
 unfold followO
 rw [if_pos h]
theorem vFollow_in (S : Nat → Prop) (d : Nat) (w : World) (iv : Value) (l : List It) (K N G : Int) (s : ByteArray) (q1 q2 : Option Addr) (m1 e1 m2 e2 : Nat) (cs : List Value) (o : Ob)
   (hI : ItemsAt S (d + 1) w iv l) (hl : l.length ≤ 1000000) (htI : ∀ i ∈ l,tameO (d + 1) i.ob) (h : ObjAt S (d + 1) w cs o) (ht : tameO (d + 1) o) (hS : ∀ b,S b → b < w.heap.size) :
   Calls Tryz.prog 125 #[.agg #[iv,.int .i64 K,.int .i64 N,.int .i64 G,.string s,.slice q1 m1 e1,.slice q2 m2 e2],.agg cs.toArray] w (CopyOf (d + 1) w (followO l o)):=by
 obtain ⟨ip,ic,rfl⟩:=hI.slice
 have HCL0:=Lh (fun (W : World) (hW : Below w.heap.size w W) => vClone_in S (d + 1) W cs o (h.kept (fun b h => hW.block b (hS b h)) (d + 1)) ht (fun b h => Nat.lt_of_lt_of_le (hS b h) hW.size))
 obtain ⟨n,hn⟩ : ∃ n,l.length = n:=⟨_,rfl⟩
 rw [hn]
 rw [hn] at hI
 have HN:=Lh hn
 have HII:=Lh (And.intro hI (And.intro htI hS))
 have HIX:=Lh (fun (N : Int) (B : Nat) (W : World) (hW : Below w.heap.size w W) hc hb => iindex_in S (d + 1) _ l N B W (hI.kept (fun b h => hW.block b (hS b h))) hl (fun b h => Nat.lt_of_lt_of_le (hS b h) hW.size) hc hb)
 rw [hn] at hl
 obtain ⟨p1,n1,c1,p2,n2,c2,rfl⟩:=h.shape
 unfold objCells at HCL0
 unfold objCells
 clear h ht hS hI htI hn
 go_enter Tryz.func125,Tryz.ntmps125
 go_upto_region 1 with fail
 obtain ⟨w0,hw0⟩ : ∃ w0,((w.alloc (.cells #[.slice ip n ic,.int .i64 K,.int .i64 N,.int .i64 G,.string s,.slice q1 m1 e1,.slice q2 m2 e2] 28)).alloc (.cells #[.int .i64 o.kind,.int .i64 o.n,.int .i64 o.g,.string ⟨o.s.toArray⟩,.slice p1 n1 c1,.slice p2 n2 c2] 26)).alloc (.cells #[.int .i64 0,.int .i64 0,.int .i64 0,.string ⟨#[]⟩,.slice none 0 0,.slice none 0 0] 26) = w0:=⟨_,rfl⟩
 rw [hw0]
 have A0 : w0.heap[w.heap.size]? = some (.cells #[.slice ip n ic,.int .i64 K,.int .i64 N,.int .i64 G,.string s,.slice q1 m1 e1,.slice q2 m2 e2] 28 (0,0)):=by
   rw [← hw0,Below.heap_alloc _ _ _ (by simp;omega),Below.heap_alloc _ _ _ (by simp)];exact heap_new_at _ _ _ rfl
 have A1 : w0.heap[w.heap.size + 1]? = some (.cells #[.int .i64 o.kind,.int .i64 o.n,.int .i64 o.g,.string ⟨o.s.toArray⟩,.slice p1 n1 c1,.slice p2 n2 c2] 26 (0,0)):=by
   rw [← hw0,Below.heap_alloc _ _ _ (by simp)];exact heap_new_at _ _ _ (by simp)
 have A2 : w0.heap[w.heap.size + 1 + 1]? = some (.cells #[.int .i64 0,.int .i64 0,.int .i64 0,.string ⟨#[]⟩,.slice none 0 0,.slice none 0 0] 26 (0,0)):=by
   rw [← hw0];exact heap_new_at _ _ _ (by simp)
 have hbw : Below w.heap.size w w0:=by rw [← hw0];exact bel
 have hz0 : w.heap.size + 3 ≤ w0.heap.size:=by rw [← hw0];simp
 have i0 : w0.cell? ⟨w.heap.size,0,none⟩ = some (.slice ip n ic):=by simp [World.cell?,A0]
 clear hw0
 obtain ⟨b0,b1,b2,b3,b4,b5,bf⟩:=six_of A1
 obtain ⟨r0,r1,r2,r3,r4,r5,rf⟩:=six_of A2
 by_cases h8 : o.kind = 8
 · have e8 : (o.kind != 8) = false:=by simpa using h8
   have HFW:=Lh (followO_ref l o h8)
   have hmf : ∀ (fn : Fn) (first cap : Array Value) (w : World),(Instr.makeFunc fn first cap).run Tryz.prog w = .ok (.func fn first cap) w:=fun _ _ _ _ => rfl
   clear h8
   go_wp2_with fail
   refine (HIX.out o.n (w.heap.size + 1) w0 hbw b1 (by omega)).mono ?_
   rintro e w1 ⟨z,rfl,hz,hb1⟩
   have B0:=(hb1.block _ (by omega)).trans A0
   have B1:=(hb1.block _ (by omega)).trans A1
   have B2:=(hb1.block _ (by omega)).trans A2
   have hbw1:=hbw.trans (hb1.mono hbw.size)
   have hz1:=hb1.size
   clear i0 b0 b1 b2 b3 b4 b5 bf r0 r1 r2 r3 r4 r5 rf A0 A1 A2 hbw hb1
   have i0 : w1.cell? ⟨w.heap.size,0,none⟩ = some (.slice ip n ic):=by simp [World.cell?,B0]
   obtain ⟨b0,b1,b2,b3,b4,b5,bf⟩:=six_of B1
   obtain ⟨r0,r1,r2,r3,r4,r5,rf⟩:=six_of B2
   rcases find_at hz with ⟨rfl,hf⟩ | ⟨k,i,rfl,hk,hf⟩
   · have HR:=Lh (show followO l o = .zero by rw [HFW.out,hf];rfl)
     clear hf hz HFW
     go_wp2
     go_region
     go_wp2
     obtain ⟨w9,hw9⟩ : ∃ w9,((((((w1.setCell ⟨w.heap.size + 1 + 1,0,none⟩ (.int .i64 0)).setCell ⟨w.heap.size + 1 + 1,1,none⟩ (.int .i64 0)).setCell ⟨w.heap.size + 1 + 1,2,none⟩ (.int .i64 0)).setCell ⟨w.heap.size + 1 + 1,3,none⟩ (.string ⟨#[]⟩)).setCell ⟨w.heap.size + 1 + 1,4,none⟩ (.slice none 0 0)).setCell ⟨w.heap.size + 1 + 1,5,none⟩ (.slice none 0 0)) = w9:=⟨_,rfl⟩
     rw [hw9]
     have sg9:=set6_grown w1 (w.heap.size + 1 + 1) 0 1 2 3 4 5 (.int .i64 0) (.int .i64 0) (.int .i64 0) (.string ⟨#[]⟩) (.slice none 0 0) (.slice none 0 0)
     have Z1:=set_six (v0:=.int .i64 0) (v1:=.int .i64 0) (v2:=.int .i64 0) (v3:=.string ⟨#[]⟩) (v4:=.slice none 0 0) (v5:=.slice none 0 0) B2
     rw [hw9] at sg9 Z1
     have hbw9 : Below w.heap.size w w9:=hbw1.grown sg9 hbw1.size (fun k h => by cases h;omega)
     clear hw9
     obtain ⟨s0,s1,s2,s3,s4,s5,sf⟩:=six_of Z1
     refine bodyPost_ret (v:=.agg #[.int .i64 0,.int .i64 0,.int .i64 0,.string ⟨#[]⟩,.slice none 0 0,.slice none 0 0]) (by simp [results,Tryz.results125,go_sem,s0,s1,s2,s3,s4,s5]) rfl ?_
     rw [HR.out]
     exact CopyOf.zero d hbw9.drew
   · have hkn : k < n:=by rw [← HN.out];exact (List.getElem?_eq_some_iff.1 hk).1
     have hvr : ItemsAt S (d + 1) w1 (.slice ip n ic) l:=HII.out.1.kept (fun b h => hbw1.block b (HII.out.2.2 b h))
     obtain ⟨b,off,rfl⟩:=hvr.addr HN.out k hkn
     obtain ⟨i',y1,t1,x1,y2,t2,x2,hi,hsb,O1,a0,a1,a2,a3,a4,a5,a6,a7⟩:=item_kid hvr HN.out k hkn
     rw [hk] at hi
     obtain rfl:=Option.some.inj hi
     have hblt : b < w1.heap.size:=Nat.lt_of_lt_of_le (HII.out.2.2 b hsb) hbw1.size
     have d0 : decide ((k : Int) < 0) = false:=by simp
     by_cases hg : i.gen = o.g
     · have eg : (i.gen != o.g) = false:=by simpa using hg
       have HR:=Lh (show followO l o = i.ob by rw [HFW.out,hf];exact if_pos hg)
       have HCL:=Lh (vClone_in S (d + 1) w1.drew _ i.ob (ObjAt.kept (w:=w1) (w':=w1.drew) (fun _ _ => rfl) (d + 1) O1) (HII.out.2.1 i (List.mem_of_getElem? hk)) (fun b h => Nat.lt_of_lt_of_le (HII.out.2.2 b h) hbw1.size))
       unfold objCells at HCL
       clear hf hz HFW hg hvr hi hsb O1 hk
       go_wp2
       go_region
       obtain ⟨wd,hwd⟩ : ∃ wd,w1.drew = wd:=⟨_,rfl⟩
       have D2 : wd.heap[w.heap.size + 1 + 1]? = _:=(show wd.heap[w.heap.size + 1 + 1]? = w1.heap[w.heap.size + 1 + 1]? by rw [← hwd];rfl).trans B2
       have D0 : wd.cell? ⟨w.heap.size,0,none⟩ = some (.slice (some ⟨b,off,none⟩) n ic):=by rw [← hwd];exact i0
       have hbwd : Below w.heap.size w wd:=by rw [← hwd];exact hbw1.drew
       have kd : ∀ b o,wd.cell? ⟨b,o,none⟩ = w1.cell? ⟨b,o,none⟩:=fun b o => by rw [← hwd];rfl
       have g2:=(kd b (off + k * 8 + 2)).trans a2
       have g3:=(kd b (off + k * 8 + 3)).trans a3
       have g4:=(kd b (off + k * 8 + 4)).trans a4
       have g5:=(kd b (off + k * 8 + 5)).trans a5
       have g6:=(kd b (off + k * 8 + 6)).trans a6
       have g7:=(kd b (off + k * 8 + 7)).trans a7
       have hzd : w1.heap.size ≤ wd.heap.size:=by rw [← hwd];exact Nat.le_refl _
       rw [hwd] at HCL ⊢
       clear hwd kd a0 a1 a2 a3 a4 a5 a6 a7 i0 b0 b1 b2 b3 b4 b5 bf r0 r1 r2 r3 r4 r5 rf B0 B1 B2
       go_wp2_with fail
       refine HCL.out.mono ?_
       rintro e w3 ⟨y1,f1,y2,f2,rfl,O3,hb3⟩
       have C1:=(hb3.block _ (by first | exact lt_of_block D2 | omega)).trans D2
       have hbw3:=hbwd.trans (hb3.mono hbwd.size)
       have HO:=Lh O3
       have hz3:=hb3.size
       clear O3 hb3
       obtain ⟨x0,x1,x2,x3,x4,x5,xf⟩:=six_of C1
       go_wp2
       obtain ⟨w9,hw9⟩ : ∃ w9,((((((w3.setCell ⟨w.heap.size + 1 + 1,0,none⟩ (.int .i64 i.ob.kind)).setCell ⟨w.heap.size + 1 + 1,1,none⟩ (.int .i64 i.ob.n)).setCell ⟨w.heap.size + 1 + 1,2,none⟩ (.int .i64 i.ob.g)).setCell ⟨w.heap.size + 1 + 1,3,none⟩ (.string ⟨i.ob.s.toArray⟩)).setCell ⟨w.heap.size + 1 + 1,4,none⟩ (.slice y1 i.ob.keys.length f1)).setCell ⟨w.heap.size + 1 + 1,5,none⟩ (.slice y2 i.ob.kids.length f2)) = w9:=⟨_,rfl⟩
       rw [hw9]
       have sg9:=set6_grown w3 (w.heap.size + 1 + 1) 0 1 2 3 4 5 (.int .i64 i.ob.kind) (.int .i64 i.ob.n) (.int .i64 i.ob.g) (.string ⟨i.ob.s.toArray⟩) (.slice y1 i.ob.keys.length f1) (.slice y2 i.ob.kids.length f2)
       have Z1:=set_six (v0:=.int .i64 i.ob.kind) (v1:=.int .i64 i.ob.n) (v2:=.int .i64 i.ob.g) (v3:=.string ⟨i.ob.s.toArray⟩) (v4:=.slice y1 i.ob.keys.length f1) (v5:=.slice y2 i.ob.kids.length f2) C1
       rw [hw9] at sg9 Z1
       have hbw9 : Below w.heap.size w w9:=hbw3.grown sg9 hbw3.size (fun k h => by cases h;omega)
       clear hw9
       obtain ⟨s0,s1,s2,s3,s4,s5,sf⟩:=six_of Z1
       refine bodyPost_ret (v:=.agg #[.int .i64 i.ob.kind,.int .i64 i.ob.n,.int .i64 i.ob.g,.string ⟨i.ob.s.toArray⟩,.slice y1 i.ob.keys.length f1,.slice y2 i.ob.kids.length f2]) (by simp [results,Tryz.results125,go_sem,s0,s1,s2,s3,s4,s5]) rfl ?_
       rw [HR.out]
       exact ⟨y1,f1,y2,f2,rfl,HO.out.grow (fun b h1 h2 => ⟨by omega,sg9.block b h2 (by simp;omega)⟩),hbw9⟩
     · have eg : (i.gen != o.g) = true:=by simpa using hg
       have HR:=Lh (show followO l o = .zero by rw [HFW.out,hf];exact if_neg hg)
       clear hf hz HFW hg hvr hi hsb O1 hk
       go_wp2
       go_region
       go_wp2
       obtain ⟨w9,hw9⟩ : ∃ w9,((((((w1.setCell ⟨w.heap.size + 1 + 1,0,none⟩ (.int .i64 0)).setCell ⟨w.heap.size + 1 + 1,1,none⟩ (.int .i64 0)).setCell ⟨w.heap.size + 1 + 1,2,none⟩ (.int .i64 0)).setCell ⟨w.heap.size + 1 + 1,3,none⟩ (.string ⟨#[]⟩)).setCell ⟨w.heap.size + 1 + 1,4,none⟩ (.slice none 0 0)).setCell ⟨w.heap.size + 1 + 1,5,none⟩ (.slice none 0 0)) = w9:=⟨_,rfl⟩
       rw [hw9]
       have sg9:=set6_grown w1 (w.heap.size + 1 + 1) 0 1 2 3 4 5 (.int .i64 0) (.int .i64 0) (.int .i64 0) (.string ⟨#[]⟩) (.slice none 0 0) (.slice none 0 0)
       have Z1:=set_six (v0:=.int .i64 0) (v1:=.int .i64 0) (v2:=.int .i64 0) (v3:=.string ⟨#[]⟩) (v4:=.slice none 0 0) (v5:=.slice none 0 0) B2
       rw [hw9] at sg9 Z1
       have hbw9 : Below w.heap.size w w9:=hbw1.grown sg9 hbw1.size (fun k h => by cases h;omega)
       clear hw9
       obtain ⟨s0,s1,s2,s3,s4,s5,sf⟩:=six_of Z1
       refine bodyPost_ret (v:=.agg #[.int .i64 0,.int .i64 0,.int .i64 0,.string ⟨#[]⟩,.slice none 0 0,.slice none 0 0]) (by simp [results,Tryz.results125,go_sem,s0,s1,s2,s3,s4,s5]) rfl ?_
       rw [HR.out]
       exact CopyOf.zero d hbw9.drew
 · have e8 : (o.kind != 8) = true:=by simpa using h8
   have HR:=Lh (followO_own l o h8)
   have HCL:=Lh (HCL0.out w0 hbw)
   clear h8
   go_wp2_with fail
   refine HCL.out.mono ?_
   rintro e w3 ⟨y1,f1,y2,f2,rfl,O3,hb3⟩
   have C1:=(hb3.block _ (by first | exact lt_of_block A2 | omega)).trans A2
   have hbw3:=hbw.trans (hb3.mono hbw.size)
   have HO:=Lh O3
   have hz3:=hb3.size
   clear O3 hb3
   obtain ⟨x0,x1,x2,x3,x4,x5,xf⟩:=six_of C1
   go_wp2
   obtain ⟨w9,hw9⟩ : ∃ w9,((((((w3.setCell ⟨w.heap.size + 1 + 1,0,none⟩ (.int .i64 o.kind)).setCell ⟨w.heap.size + 1 + 1,1,none⟩ (.int .i64 o.n)).setCell ⟨w.heap.size + 1 + 1,2,none⟩ (.int .i64 o.g)).setCell ⟨w.heap.size + 1 + 1,3,none⟩ (.string ⟨o.s.toArray⟩)).setCell ⟨w.heap.size + 1 + 1,4,none⟩ (.slice y1 o.keys.length f1)).setCell ⟨w.heap.size + 1 + 1,5,none⟩ (.slice y2 o.kids.length f2)) = w9:=⟨_,rfl⟩
   rw [hw9]
   have sg9:=set6_grown w3 (w.heap.size + 1 + 1) 0 1 2 3 4 5 (.int .i64 o.kind) (.int .i64 o.n) (.int .i64 o.g) (.string ⟨o.s.toArray⟩) (.slice y1 o.keys.length f1) (.slice y2 o.kids.length f2)
   have Z1:=set_six (v0:=.int .i64 o.kind) (v1:=.int .i64 o.n) (v2:=.int .i64 o.g) (v3:=.string ⟨o.s.toArray⟩) (v4:=.slice y1 o.keys.length f1) (v5:=.slice y2 o.kids.length f2) C1
   rw [hw9] at sg9 Z1
   have hbw9 : Below w.heap.size w w9:=hbw3.grown sg9 hbw3.size (fun k h => by cases h;omega)
   clear hw9
   obtain ⟨s0,s1,s2,s3,s4,s5,sf⟩:=six_of Z1
   refine bodyPost_ret (v:=.agg #[.int .i64 o.kind,.int .i64 o.n,.int .i64 o.g,.string ⟨o.s.toArray⟩,.slice y1 o.keys.length f1,.slice y2 o.kids.length f2]) (by simp [results,Tryz.results125,go_sem,s0,s1,s2,s3,s4,s5]) rfl ?_
   rw [HR.out]
   exact ⟨y1,f1,y2,f2,rfl,HO.out.grow (fun b h1 h2 => ⟨by omega,sg9.block b h2 (by simp;omega)⟩),hbw9⟩
theorem itemsB_cons (p : Option Int) (i : It) (r : List It) : itemsB p (i :: r) = if !numsB i then 2 else if notUp p i.num then 9 else if contB i.ob ≠ 0 then contB i.ob else itemsB (some i.num) r:=rfl
theorem eight_of {w : World} {b : Nat} {t : TypeId} {v0 v1 v2 v3 v4 v5 v6 v7 : Value} (h : w.heap[b]? = some (.cells #[v0, v1, v2, v3, v4, v5, v6, v7] t (0, 0))) :
   w.cell? ⟨b,0,none⟩ = some v0 ∧ w.cell? ⟨b,1,none⟩ = some v1 ∧ w.cell? ⟨b,2,none⟩ = some v2 ∧ w.cell? ⟨b,3,none⟩ = some v3 ∧ w.cell? ⟨b,4,none⟩ = some v4 ∧ w.cell? ⟨b,5,none⟩ = some v5 ∧ w.cell? ⟨b,6,none⟩ = some v6 ∧ w.cell? ⟨b,7,none⟩ = some v7:=by
 simp [World.cell?,h]
def prevN (l : List It) (k : Nat) : Option Int:=if k = 0 then none else (l[k - 1]?).map It.num
theorem prevN_succ {l : List It} {k : Nat} {i : It} (h : l[k]? = some i) : prevN l (k + 1) = some i.num:=by
 unfold prevN;rw [if_neg (by omega),Nat.add_sub_cancel,h];rfl
theorem items_in (S : Nat → Prop) (d : Nat) (v : Value) (l : List It) (w : World) (hv : ItemsAt S (d + 1) w v l) (hl : l.length ≤ 1000000) (hsm : ∀ i ∈ l, smallO (d + 1) i.ob) (hS : ∀ b, S b → b < w.heap.size) :
   Calls Tryz.prog 78 #[v] w fun e w' => e = .returned (.int .i64 (itemsB none l)) ∧ Below w.heap.size w w':=by
 obtain ⟨p,cp,rfl⟩:=hv.slice
 obtain ⟨n,hn⟩ : ∃ n,l.length = n:=⟨_,rfl⟩
 obtain ⟨C,hC⟩ : ∃ C,itemsB none l = C:=⟨_,rfl⟩
 have HV:=Lh hv
 rw [hn] at HV
 have HN:=Lh hn
 have HS:=Lh (And.intro hS hsm)
 have HC:=Lh (show itemsB (prevN l 0) (l.drop 0) = C from hC)
 rw [hn,hC]
 have hn1 : n ≤ 1000000:=by omega
 clear hv hn hS hl hC hsm
 go_enter Tryz.func78,Tryz.ntmps78
 go_wp2
 go_loopw [8] (fun i wr => ∃ k : Nat,k ≤ n ∧ i = .int .i64 k ∧ Below w.heap.size w wr ∧ Hid (itemsB (prevN l k) (l.drop k) = C)) (fun i _ => n - (intOf i).toNat)
 case atStart => exact ⟨0,Nat.zero_le _,rfl,Below.refl _ _,HC⟩
 case round =>
   obtain ⟨k,hk,rfl,hbr,HF⟩:=hrel
   have hzr:=hbr.size
   by_cases hlk : k < n
   · have hvr : ItemsAt S (d + 1) wr (.slice p n cp) l:=HV.out.kept (fun b h => hbr.block b (HS.out.1 b h))
     obtain ⟨b,off,rfl⟩:=hvr.addr HN.out k hlk
     obtain ⟨i,y1,t1,x1,y2,t2,x2,hi,hsb,O1,a0,a1,a2,a3,a4,a5,a6,a7⟩:=item_kid hvr HN.out k hlk
     have hblt : b < wr.heap.size:=Nat.lt_of_lt_of_le (HS.out.1 b hsb) hzr
     have hbne : ¬ b = wr.heap.size:=by omega
     have HI:=Lh hi
     have HNU:=Lh (fun W => numbers_in i y1 y2 t1 x1 t2 x2 W)
     have HCO:=Lh (fun (W : World) (hW : Below wr.heap.size wr W) => content_in S d W _ i _ _ rfl rfl (O1.kept (fun b h => hW.block b (Nat.lt_of_lt_of_le (HS.out.1 b h) hzr)) (d + 1)) (HS.out.2 i (List.mem_of_getElem? hi)) (fun b h => Nat.lt_of_lt_of_le (HS.out.1 b h) (Nat.le_trans hzr hW.size)))
     unfold objCells at HCO
     have HIT:=Lh (show (if !numsB i then 2 else if notUp (prevN l k) i.num then 9 else if contB i.ob ≠ 0 then contB i.ob else itemsB (some i.num) (l.drop (k + 1))) = C by
       rw [← HF.out,← itemsB_cons]
       have hk' : k < l.length:=by rw [HN.out];exact hlk
       have he : l[k] = i:=by rw [List.getElem?_eq_getElem hk'] at hi;exact Option.some.inj hi
       rw [List.drop_eq_getElem_cons hk',he])
     cases k with
     | zero =>
       clear hvr hi hsb O1 HF
       simp only [Nat.zero_mul,Nat.add_zero] at a0 a1 a2 a3 a4 a5 a6 a7
       cases hn0 : numsB i
       · rw [hn0] at HNU
         have HR:=Lh (show C = 2 by rw [← HIT.out,hn0];rfl)
         clear hn0
         go_wp2_with fail
         refine (HNU.out _).mono ?_
         rintro e w1 ⟨rfl,hb1⟩
         have hz1:=hb1.size
         simp at hz1
         have X1:=(hb1.block _ (by simp)).trans (heap_new_at wr (.cells #[.int .i64 i.num,.int .i64 i.gen,.int .i64 i.ob.kind,.int .i64 i.ob.n,.int .i64 i.ob.g,.string ⟨i.ob.s.toArray⟩,.slice y1 t1 x1,.slice y2 t2 x2] 50) _ rfl)
         obtain ⟨z0,z1,z2,z3,z4,z5,z6,z7⟩:=eight_of X1
         have hbw1 : Below w.heap.size w w1:=hbr.trans (((Below.refl _ wr).alloc (Nat.le_refl _) (.cells #[.int .i64 i.num,.int .i64 i.gen,.int .i64 i.ob.kind,.int .i64 i.ob.n,.int .i64 i.ob.g,.string ⟨i.ob.s.toArray⟩,.slice y1 t1 x1,.slice y2 t2 x2] 50)).trans (hb1.mono (by simp)) |>.mono hbr.size)
         have hbz1 : Below wr.heap.size wr w1:=((Below.refl _ wr).alloc (Nat.le_refl _) (.cells #[.int .i64 i.num,.int .i64 i.gen,.int .i64 i.ob.kind,.int .i64 i.ob.n,.int .i64 i.ob.g,.string ⟨i.ob.s.toArray⟩,.slice y1 t1 x1,.slice y2 t2 x2] 50)).trans (hb1.mono (by simp))
         clear X1 hb1
         go_wp2
         go_ret
         exact ⟨ret_int HR.out.symm,hbw1⟩
       rw [hn0] at HNU
       cases hup : notUp (prevN l 0) i.num
       rotate_left
       ·
         exact absurd hup (by simp [prevN,notUp])
       by_cases hct : contB i.ob = 0
       · have e0 : (contB i.ob != 0) = false:=by simpa using hct
         have HR:=Lh (show itemsB (some i.num) (l.drop (0 + 1)) = C by rw [← HIT.out,hn0,hup,hct];rfl)
         rw [hct] at HCO
         clear hn0 hct e0
         go_wp2_with fail
         refine (HNU.out _).mono ?_
         rintro e w1 ⟨rfl,hb1⟩
         have hz1:=hb1.size
         simp at hz1
         have X1:=(hb1.block _ (by simp)).trans (heap_new_at wr (.cells #[.int .i64 i.num,.int .i64 i.gen,.int .i64 i.ob.kind,.int .i64 i.ob.n,.int .i64 i.ob.g,.string ⟨i.ob.s.toArray⟩,.slice y1 t1 x1,.slice y2 t2 x2] 50) _ rfl)
         obtain ⟨z0,z1,z2,z3,z4,z5,z6,z7⟩:=eight_of X1
         have hbw1 : Below w.heap.size w w1:=hbr.trans (((Below.refl _ wr).alloc (Nat.le_refl _) (.cells #[.int .i64 i.num,.int .i64 i.gen,.int .i64 i.ob.kind,.int .i64 i.ob.n,.int .i64 i.ob.g,.string ⟨i.ob.s.toArray⟩,.slice y1 t1 x1,.slice y2 t2 x2] 50)).trans (hb1.mono (by simp)) |>.mono hbr.size)
         have hbz1 : Below wr.heap.size wr w1:=((Below.refl _ wr).alloc (Nat.le_refl _) (.cells #[.int .i64 i.num,.int .i64 i.gen,.int .i64 i.ob.kind,.int .i64 i.ob.n,.int .i64 i.ob.g,.string ⟨i.ob.s.toArray⟩,.slice y1 t1 x1,.slice y2 t2 x2] 50)).trans (hb1.mono (by simp))
         clear X1 hb1
         skip
         skip
         clear hup
         go_wp2
         go_region
         go_wp2_with fail
         refine (HCO.out _ (by first | exact hbz1.drew | exact hbz1)).mono ?_
         rintro e w2 ⟨rfl,hb2⟩
         have hz2:=hb2.size
         have hbw2 : Below w.heap.size w w2:=hbw1.drew.trans (hb2.mono (by first | exact hbw1.size | exact Nat.le_trans hbw1.size (Nat.le_refl _)))
         go_wp2
         go_roundw
         case rel => exact ⟨0 + 1,by omega,by go_num,hbw2,Lh (by rw [prevN_succ HI.out];exact HR.out)⟩
         case measure => simp [intOf];omega
       · have e0 : (contB i.ob != 0) = true:=by simpa using hct
         have HR:=Lh (show C = contB i.ob by rw [← HIT.out,hn0,hup,if_neg (by decide),if_neg (by decide),if_pos hct])
         clear hn0 hct
         go_wp2_with fail
         refine (HNU.out _).mono ?_
         rintro e w1 ⟨rfl,hb1⟩
         have hz1:=hb1.size
         simp at hz1
         have X1:=(hb1.block _ (by simp)).trans (heap_new_at wr (.cells #[.int .i64 i.num,.int .i64 i.gen,.int .i64 i.ob.kind,.int .i64 i.ob.n,.int .i64 i.ob.g,.string ⟨i.ob.s.toArray⟩,.slice y1 t1 x1,.slice y2 t2 x2] 50) _ rfl)
         obtain ⟨z0,z1,z2,z3,z4,z5,z6,z7⟩:=eight_of X1
         have hbw1 : Below w.heap.size w w1:=hbr.trans (((Below.refl _ wr).alloc (Nat.le_refl _) (.cells #[.int .i64 i.num,.int .i64 i.gen,.int .i64 i.ob.kind,.int .i64 i.ob.n,.int .i64 i.ob.g,.string ⟨i.ob.s.toArray⟩,.slice y1 t1 x1,.slice y2 t2 x2] 50)).trans (hb1.mono (by simp)) |>.mono hbr.size)
         have hbz1 : Below wr.heap.size wr w1:=((Below.refl _ wr).alloc (Nat.le_refl _) (.cells #[.int .i64 i.num,.int .i64 i.gen,.int .i64 i.ob.kind,.int .i64 i.ob.n,.int .i64 i.ob.g,.string ⟨i.ob.s.toArray⟩,.slice y1 t1 x1,.slice y2 t2 x2] 50)).trans (hb1.mono (by simp))
         clear X1 hb1
         skip
         skip
         clear hup
         go_wp2
         go_region
         go_wp2_with fail
         refine (HCO.out _ (by first | exact hbz1.drew | exact hbz1)).mono ?_
         rintro e w2 ⟨rfl,hb2⟩
         have hz2:=hb2.size
         have hbw2 : Below w.heap.size w w2:=hbw1.drew.trans (hb2.mono (by first | exact hbw1.size | exact Nat.le_trans hbw1.size (Nat.le_refl _)))
         go_wp2
         go_ret
         exact ⟨ret_int HR.out.symm,hbw2⟩
     | succ j =>
       obtain ⟨q,_,_,_,_,_,_,hq,_,_,q0,_⟩:=item_kid hvr HN.out j (by omega)
       have HQ:=Lh hq
       have wj : IntKind.i64.wrap (j : Int) = j:=IntWalk.i64_in _ (by omega)
       have gj : decide (0 < (j : Int) + 1) = true:=by rw [decide_eq_true_eq];omega
       clear hvr hi hsb O1 HF hq
       cases hn0 : numsB i
       · rw [hn0] at HNU
         have HR:=Lh (show C = 2 by rw [← HIT.out,hn0];rfl)
         clear hn0
         go_wp2_with fail
         refine (HNU.out _).mono ?_
         rintro e w1 ⟨rfl,hb1⟩
         have hz1:=hb1.size
         simp at hz1
         have X1:=(hb1.block _ (by simp)).trans (heap_new_at wr (.cells #[.int .i64 i.num,.int .i64 i.gen,.int .i64 i.ob.kind,.int .i64 i.ob.n,.int .i64 i.ob.g,.string ⟨i.ob.s.toArray⟩,.slice y1 t1 x1,.slice y2 t2 x2] 50) _ rfl)
         obtain ⟨z0,z1,z2,z3,z4,z5,z6,z7⟩:=eight_of X1
         have hbw1 : Below w.heap.size w w1:=hbr.trans (((Below.refl _ wr).alloc (Nat.le_refl _) (.cells #[.int .i64 i.num,.int .i64 i.gen,.int .i64 i.ob.kind,.int .i64 i.ob.n,.int .i64 i.ob.g,.string ⟨i.ob.s.toArray⟩,.slice y1 t1 x1,.slice y2 t2 x2] 50)).trans (hb1.mono (by simp)) |>.mono hbr.size)
         have hbz1 : Below wr.heap.size wr w1:=((Below.refl _ wr).alloc (Nat.le_refl _) (.cells #[.int .i64 i.num,.int .i64 i.gen,.int .i64 i.ob.kind,.int .i64 i.ob.n,.int .i64 i.ob.g,.string ⟨i.ob.s.toArray⟩,.slice y1 t1 x1,.slice y2 t2 x2] 50)).trans (hb1.mono (by simp))
         clear X1 hb1
         go_wp2
         go_ret
         exact ⟨ret_int HR.out.symm,hbw1⟩
       rw [hn0] at HNU
       cases hup : notUp (prevN l (j + 1)) i.num
       rotate_left
       ·
         have HR:=Lh (show C = 9 by rw [← HIT.out,hn0,hup];rfl)
         clear hn0
         go_wp2_with fail
         refine (HNU.out _).mono ?_
         rintro e w1 ⟨rfl,hb1⟩
         have hz1:=hb1.size
         simp at hz1
         have X1:=(hb1.block _ (by simp)).trans (heap_new_at wr (.cells #[.int .i64 i.num,.int .i64 i.gen,.int .i64 i.ob.kind,.int .i64 i.ob.n,.int .i64 i.ob.g,.string ⟨i.ob.s.toArray⟩,.slice y1 t1 x1,.slice y2 t2 x2] 50) _ rfl)
         obtain ⟨z0,z1,z2,z3,z4,z5,z6,z7⟩:=eight_of X1
         have hbw1 : Below w.heap.size w w1:=hbr.trans (((Below.refl _ wr).alloc (Nat.le_refl _) (.cells #[.int .i64 i.num,.int .i64 i.gen,.int .i64 i.ob.kind,.int .i64 i.ob.n,.int .i64 i.ob.g,.string ⟨i.ob.s.toArray⟩,.slice y1 t1 x1,.slice y2 t2 x2] 50)).trans (hb1.mono (by simp)) |>.mono hbr.size)
         have hbz1 : Below wr.heap.size wr w1:=((Below.refl _ wr).alloc (Nat.le_refl _) (.cells #[.int .i64 i.num,.int .i64 i.gen,.int .i64 i.ob.kind,.int .i64 i.ob.n,.int .i64 i.ob.g,.string ⟨i.ob.s.toArray⟩,.slice y1 t1 x1,.slice y2 t2 x2] 50)).trans (hb1.mono (by simp))
         clear X1 hb1
         have pj : w1.cell? ⟨b,off + j * 8,none⟩ = some (.int .i64 q.num):=(World.cell?_of_block (a:=⟨b,off + j * 8,none⟩) (hbz1.block b hblt)).trans q0
         have u1 : decide (i.num ≤ q.num) = true:=by simpa [notUp,prevN_succ HQ.out] using hup
         clear hup
         go_wp2
         go_region
         go_wp2
         go_ret
         exact ⟨ret_int HR.out.symm,hbw1.drew⟩
       by_cases hct : contB i.ob = 0
       · have e0 : (contB i.ob != 0) = false:=by simpa using hct
         have HR:=Lh (show itemsB (some i.num) (l.drop ((j + 1) + 1)) = C by rw [← HIT.out,hn0,hup,hct];rfl)
         rw [hct] at HCO
         clear hn0 hct e0
         go_wp2_with fail
         refine (HNU.out _).mono ?_
         rintro e w1 ⟨rfl,hb1⟩
         have hz1:=hb1.size
         simp at hz1
         have X1:=(hb1.block _ (by simp)).trans (heap_new_at wr (.cells #[.int .i64 i.num,.int .i64 i.gen,.int .i64 i.ob.kind,.int .i64 i.ob.n,.int .i64 i.ob.g,.string ⟨i.ob.s.toArray⟩,.slice y1 t1 x1,.slice y2 t2 x2] 50) _ rfl)
         obtain ⟨z0,z1,z2,z3,z4,z5,z6,z7⟩:=eight_of X1
         have hbw1 : Below w.heap.size w w1:=hbr.trans (((Below.refl _ wr).alloc (Nat.le_refl _) (.cells #[.int .i64 i.num,.int .i64 i.gen,.int .i64 i.ob.kind,.int .i64 i.ob.n,.int .i64 i.ob.g,.string ⟨i.ob.s.toArray⟩,.slice y1 t1 x1,.slice y2 t2 x2] 50)).trans (hb1.mono (by simp)) |>.mono hbr.size)
         have hbz1 : Below wr.heap.size wr w1:=((Below.refl _ wr).alloc (Nat.le_refl _) (.cells #[.int .i64 i.num,.int .i64 i.gen,.int .i64 i.ob.kind,.int .i64 i.ob.n,.int .i64 i.ob.g,.string ⟨i.ob.s.toArray⟩,.slice y1 t1 x1,.slice y2 t2 x2] 50)).trans (hb1.mono (by simp))
         clear X1 hb1
         have pj : w1.cell? ⟨b,off + j * 8,none⟩ = some (.int .i64 q.num):=(World.cell?_of_block (a:=⟨b,off + j * 8,none⟩) (hbz1.block b hblt)).trans q0
         have u1 : decide (i.num ≤ q.num) = false:=by simpa [notUp,prevN_succ HQ.out] using hup
         clear hup
         go_wp2
         go_region
         go_wp2_with fail
         refine (HCO.out _ (by first | exact hbz1.drew | exact hbz1)).mono ?_
         rintro e w2 ⟨rfl,hb2⟩
         have hz2:=hb2.size
         have hbw2 : Below w.heap.size w w2:=hbw1.drew.trans (hb2.mono (by first | exact hbw1.size | exact Nat.le_trans hbw1.size (Nat.le_refl _)))
         go_wp2
         go_roundw
         case rel => exact ⟨(j + 1) + 1,by omega,by go_num,hbw2,Lh (by rw [prevN_succ HI.out];exact HR.out)⟩
         case measure => simp [intOf];omega
       · have e0 : (contB i.ob != 0) = true:=by simpa using hct
         have HR:=Lh (show C = contB i.ob by rw [← HIT.out,hn0,hup,if_neg (by decide),if_neg (by decide),if_pos hct])
         clear hn0 hct
         go_wp2_with fail
         refine (HNU.out _).mono ?_
         rintro e w1 ⟨rfl,hb1⟩
         have hz1:=hb1.size
         simp at hz1
         have X1:=(hb1.block _ (by simp)).trans (heap_new_at wr (.cells #[.int .i64 i.num,.int .i64 i.gen,.int .i64 i.ob.kind,.int .i64 i.ob.n,.int .i64 i.ob.g,.string ⟨i.ob.s.toArray⟩,.slice y1 t1 x1,.slice y2 t2 x2] 50) _ rfl)
         obtain ⟨z0,z1,z2,z3,z4,z5,z6,z7⟩:=eight_of X1
         have hbw1 : Below w.heap.size w w1:=hbr.trans (((Below.refl _ wr).alloc (Nat.le_refl _) (.cells #[.int .i64 i.num,.int .i64 i.gen,.int .i64 i.ob.kind,.int .i64 i.ob.n,.int .i64 i.ob.g,.string ⟨i.ob.s.toArray⟩,.slice y1 t1 x1,.slice y2 t2 x2] 50)).trans (hb1.mono (by simp)) |>.mono hbr.size)
         have hbz1 : Below wr.heap.size wr w1:=((Below.refl _ wr).alloc (Nat.le_refl _) (.cells #[.int .i64 i.num,.int .i64 i.gen,.int .i64 i.ob.kind,.int .i64 i.ob.n,.int .i64 i.ob.g,.string ⟨i.ob.s.toArray⟩,.slice y1 t1 x1,.slice y2 t2 x2] 50)).trans (hb1.mono (by simp))
         clear X1 hb1
         have pj : w1.cell? ⟨b,off + j * 8,none⟩ = some (.int .i64 q.num):=(World.cell?_of_block (a:=⟨b,off + j * 8,none⟩) (hbz1.block b hblt)).trans q0
         have u1 : decide (i.num ≤ q.num) = false:=by simpa [notUp,prevN_succ HQ.out] using hup
         clear hup
         go_wp2
         go_region
         go_wp2_with fail
         refine (HCO.out _ (by first | exact hbz1.drew | exact hbz1)).mono ?_
         rintro e w2 ⟨rfl,hb2⟩
         have hz2:=hb2.size
         have hbw2 : Below w.heap.size w w2:=hbw1.drew.trans (hb2.mono (by first | exact hbw1.size | exact Nat.le_trans hbw1.size (Nat.le_refl _)))
         go_wp2
         go_ret
         exact ⟨ret_int HR.out.symm,hbw2⟩
   · have HR := Lib.hid (show C = 0 by
       rw [← HF.out,List.drop_eq_nil_of_le (by rw [HN.out];omega)];rfl)
     go_wp2
     go_ret
     exact ⟨ret_int HR.out.symm,hbr⟩
theorem tame_up : ∀ (d : Nat) (o : Ob),tameO d o → tameO (d + 1) o
 | 0,_,h => h.elim
 | d + 1,o,h => ⟨h.1,h.2.1,fun k hk => tame_up d k (h.2.2 k hk)⟩
theorem ItemsAt.weaken {S S' : Nat → Prop} {d : Nat} {w : World} {v : Value} {l : List It} (h : ItemsAt S d w v l) (hk : ∀ b,S b → S' b) : ItemsAt S' d w v l:=by
 rcases h with h | ⟨b,off,c,h1,h2,h3⟩
 · exact .inl h
 · refine .inr ⟨b,off,c,h1,hk b h2,fun j hj => ?_⟩
   obtain ⟨v0,v1,v2,v3,v4,v5,a0,a1,a2,a3,a4,a5,a6,a7,a8⟩:=h3 j hj
   exact ⟨v0,v1,v2,v3,v4,v5,a0,a1,a2,a3,a4,a5,a6,a7,a8.weaken (fun b h _ => hk b h) d⟩
theorem known_in (w : World) : Calls Tryz.prog 123 #[] w fun e w' => e = .returned (.slice (some ⟨w.heap.size,0,none⟩) 3 3) ∧ w' = w.alloc (.cells #[.string ⟨#[73,68]⟩,.string ⟨#[73,110,102,111]⟩,.string ⟨#[82,111,111,116]⟩] 9):=by
 go_enter Tryz.func123,Tryz.ntmps123
 go_wp2
 go_ret
 exact ⟨rfl,rfl⟩
def knownB (k : L) : Bool:=k == wID || k == wInfo || k == wRoot
theorem ba_eq {x k : L} : ((⟨x.toArray⟩ : ByteArray) = ⟨k.toArray⟩) ↔ x = k:=by
 constructor
 · intro h;have:=congrArg (fun b : ByteArray => b.data.toList) h;simpa using this
 · rintro rfl;rfl
theorem has_in (k : L) (b : Nat) (w : World) (h : w.heap[b]? = some (.cells #[.string ⟨#[73, 68]⟩, .string ⟨#[73, 110, 102, 111]⟩, .string ⟨#[82, 111, 111, 116]⟩] 9)) :
   Calls Tryz.prog 122 #[.slice (some ⟨b,0,none⟩) 3 3,.string ⟨k.toArray⟩] w fun e w' => e = .returned (.bool (knownB k)) ∧ w' = w:=by
 refine (Tryz.slices_Contains_string b 0 3 3 [⟨#[73,68]⟩,⟨#[73,110,102,111]⟩,⟨#[82,111,111,116]⟩] ⟨k.toArray⟩ w (by decide) (by decide) (fun j hj => by
   match j,hj with
   | 0,_ => simp [World.cell?,h]
   | 1,_ => simp [World.cell?,h]
   | 2,_ => simp [World.cell?,h])).mono ?_
 rintro e w' ⟨rfl,rfl⟩
 refine ⟨ret_bool ?_,rfl⟩
 rw [Bool.eq_iff_iff,Lib.containsS_iff]
 unfold knownB
 have e1:=@ba_eq k wID
 have e2:=@ba_eq k wInfo
 have e3:=@ba_eq k wRoot
 simp only [List.take_succ_cons,List.take_zero,List.mem_cons,List.not_mem_nil,or_false,Bool.or_eq_true,beq_iff_eq]
 rw [show (⟨#[73,68]⟩ : ByteArray) = ⟨wID.toArray⟩ from rfl,show (⟨#[73,110,102,111]⟩ : ByteArray) = ⟨wInfo.toArray⟩ from rfl,show (⟨#[82,111,111,116]⟩ : ByteArray) = ⟨wRoot.toArray⟩ from rfl,e1,e2,e3]
 exact or_assoc.symm
theorem getO_mem {o x : Ob} {k : L} (h : getO o k = some x) : x ∈ o.kids:=by
 unfold getO at h
 cases hd : dictB o
 · rw [hd,if_neg (by decide)] at h;cases h
 · rw [hd,if_pos rfl] at h
   cases hi : idxS o.keys k with
   | none => rw [hi] at h;cases h
   | some i => rw [hi] at h;exact List.mem_of_getElem? h
def rootB (l : List It) (r : Ob) : Int:=if r.kind ≠ 8 ∨ (followO l r).kind ≠ 7 then 22 else 0
def trailR (l : List It) (t : Ob) : Int:=if !(t.keys.all knownB) then 3 else rootB l ((getO t wRoot).getD .zero)
theorem trailB_eq (l : List It) (t : Ob) : trailB l t = if checkB 24 t ≠ 0 then checkB 24 t else if t.kind ≠ 7 then 10 else trailR l t:=rfl
theorem seven_of {w : World} {b : Nat} {t : TypeId} {v0 v1 v2 v3 v4 v5 v6 : Value} (h : w.heap[b]? = some (.cells #[v0, v1, v2, v3, v4, v5, v6] t (0, 0))) :
   w.cell? ⟨b,0,none⟩ = some v0 ∧ w.cell? ⟨b,1,none⟩ = some v1 ∧ w.cell? ⟨b,2,none⟩ = some v2 ∧ w.cell? ⟨b,3,none⟩ = some v3 ∧ w.cell? ⟨b,4,none⟩ = some v4 ∧ w.cell? ⟨b,5,none⟩ = some v5 ∧ w.cell? ⟨b,6,none⟩ = some v6:=by
 simp [World.cell?,h]
theorem trail_in (S : Nat → Prop) (d : Nat) (w : World) (iv : Value) (l : List It) (cs : List Value) (T : Ob) (p1 p2 : Option Addr) (n1 c1 n2 c2 : Nat) (hcs : cs = objCells T.kind T.n T.g T.s (.slice p1 n1 c1) (.slice p2 n2 c2))
   (hI : ItemsAt S (d + 1) w iv l) (hl : l.length ≤ 1000000) (htI : ∀ i ∈ l,tameO (d + 1) i.ob) (h : ObjAt S (d + 1) w cs T) (hsm : smallO (d + 1) T) (hS : ∀ b,S b → b < w.heap.size) :
   Calls Tryz.prog 79 #[.agg #[iv,.int .i64 T.kind,.int .i64 T.n,.int .i64 T.g,.string ⟨T.s.toArray⟩,.slice p1 n1 c1,.slice p2 n2 c2]] w fun e w' => e = .returned (.int .i64 (trailB l T)) ∧ Below w.heap.size w w':=by
 obtain ⟨ip,ic,rfl⟩:=hI.slice
 have HCH:=Lh (fun (W : World) (hW : Below w.heap.size w W) => vCheck_in S (d + 1) W cs T (h.kept (fun b h => hW.block b (hS b h)) (d + 1)) hsm (fun b h => Nat.lt_of_lt_of_le (hS b h) hW.size))
 have HH:=Lh (And.intro h (And.intro hI (And.intro hl (And.intro htI hS))))
 obtain ⟨n,hn⟩ : ∃ n,l.length = n:=⟨_,rfl⟩
 have HN:=Lh hn
 rw [hn]
 have HTB:=Lh (trailB_eq l T)
 rw [hcs] at HCH
 unfold objCells at HCH
 have HCS:=Lh hcs
 clear h hsm hS hI htI hl hn hcs
 obtain ⟨C,hC⟩ : ∃ C,checkB 24 T = C:=⟨_,rfl⟩
 have HC:=Lh hC
 rw [hC] at HTB HCH
 clear hC
 by_cases hC0 : C = 0
 rotate_left
 · have HR:=Lh (show trailB l T = C by rw [HTB.out,if_pos hC0])
   have eC : (C != 0) = true:=by simpa using hC0
   clear hC0
   go_enter Tryz.func79,Tryz.ntmps79
   go_wp2_with fail
   refine (HCH.out _ bel).mono ?_
   rintro e w1 ⟨rfl,hb1⟩
   have hz1:=hb1.size
   simp at hz1
   go_wp2
   go_ret
   exact ⟨ret_int HR.out.symm,bel⟩
 subst hC0
 by_cases h7 : T.kind = 7
 rotate_left
 · have HR:=Lh (show trailB l T = 10 by rw [HTB.out,if_neg (by simp),if_pos h7])
   have e7 : (T.kind != 7) = true:=by simpa using h7
   clear h7
   go_enter Tryz.func79,Tryz.ntmps79
   go_wp2_with fail
   refine (HCH.out _ bel).mono ?_
   rintro e w1 ⟨rfl,hb1⟩
   have hz1:=hb1.size
   simp at hz1
   obtain ⟨hc1,hf1⟩:=bcell hb1
   go_wp2
   go_ret
   exact ⟨ret_int HR.out.symm,bel⟩
 have HR:=Lh (show trailB l T = trailR l T by rw [HTB.out,if_neg (by simp),if_neg (by simp [h7])])
 have e7 : (T.kind != 7) = false:=by simpa using h7
 clear h7 HTB
 go_enter Tryz.func79,Tryz.ntmps79
 go_wp2_with fail
 refine (HCH.out _ bel).mono ?_
 rintro e w1 ⟨rfl,hb1⟩
 have hz1:=hb1.size
 simp at hz1
 have B0:=(hb1.block _ (by simp)).trans (heap_new_at w (.cells #[.slice ip n ic,.int .i64 T.kind,.int .i64 T.n,.int .i64 T.g,.string ⟨T.s.toArray⟩,.slice p1 n1 c1,.slice p2 n2 c2] 28) _ rfl)
 have hbw1 : Below w.heap.size w w1:=((Below.refl _ w).alloc (Nat.le_refl _) (.cells #[.slice ip n ic,.int .i64 T.kind,.int .i64 T.n,.int .i64 T.g,.string ⟨T.s.toArray⟩,.slice p1 n1 c1,.slice p2 n2 c2] 28)).trans (hb1.mono (by simp))
 clear hb1 HCH
 obtain ⟨b0,b1,b2,b3,b4,b5,b6⟩:=seven_of B0
 obtain ⟨hK,hn1,hT⟩ : KeysAt S w (.slice p1 n1 c1) T.keys ∧ T.keys.length = n1 ∧ tameO (d + 1) T:=by
   have ht:=tame_of (d + 1) 24 cs T HH.out.1 HC.out
   obtain ⟨kv,dv,e,hK,_⟩:=HH.out.1
   rw [HCS.out] at e
   unfold objCells at e
   simp only [List.cons.injEq,and_true] at e
   obtain ⟨_,_,_,_,rfl,_⟩:=e
   refine ⟨hK,?_,ht⟩
   rcases hK with ⟨e,p,c,h⟩ | ⟨b,o,c,h,_⟩
   · rw [e];cases h;rfl
   · cases h;rfl
 have HK:=Lh (And.intro hK (And.intro hn1 hT))
 have hn2 : n1 ≤ 8192:=by rw [← hn1];exact hT.1
 have HG:=Lh (fun (W : World) (hW : Below w.heap.size w W) => vGet_in S d W cs T wRoot (HH.out.1.kept (fun b h => hW.block b (HH.out.2.2.2.2 b h)) (d + 1)) hT (fun b h => Nat.lt_of_lt_of_le (HH.out.2.2.2.2 b h) hW.size))
 rw [HCS.out] at HG
 unfold objCells at HG
 rw [show (⟨wRoot.toArray⟩ : ByteArray) = ⟨#[82,111,111,116]⟩ from rfl] at HG
 obtain ⟨R,hR⟩ : ∃ R,getO T wRoot = R:=⟨_,rfl⟩
 rw [hR] at HG
 have HTR:=Lh (show trailR l T = if !(T.keys.all knownB) then 3 else rootB l (R.getD .zero) by rw [← hR];rfl)
 have HRR:=Lh hR
 clear hK hn1 hT hR
 go_wp2
 go_loopw [22] (fun i wr => ∃ k : Nat,k ≤ n1 ∧ i = .int .i64 k ∧ Below w1.heap.size w1 wr ∧ Hid (∀ x ∈ T.keys.take k,knownB x = true)) (fun i _ => n1 - (intOf i).toNat)
 case atStart => exact ⟨0,Nat.zero_le _,rfl,Below.refl _ _,Lh (by simp)⟩
 case round =>
   obtain ⟨k,hk,rfl,hbr,HA⟩:=hrel
   have hzr:=hbr.size
   have hbwr:=hbw1.trans (hbr.mono hbw1.size)
   have C0:=(hbr.block _ (by omega)).trans B0
   clear b0 b1 b2 b3 b4 b5 b6
   by_cases hlk : k < n1
   · have hKr : KeysAt S wr (.slice p1 n1 c1) T.keys:=HK.out.1.kept (fun b h => hbwr.block b (HH.out.2.2.2.2 b h))
     obtain ⟨b,off,rfl⟩ : ∃ b off,p1 = some ⟨b,off,none⟩:=by
       rcases hKr with ⟨e,_⟩ | ⟨b,off,c,e,_⟩
       · have:=HK.out.2.1;rw [e] at this;simp at this;omega
       · cases e;exact ⟨_,_,rfl⟩
     obtain ⟨sb,g0⟩:=key_at hKr HK.out.2.1 k hlk
     obtain ⟨x,hx⟩ : ∃ x,T.keys.getD k [] = x:=⟨_,rfl⟩
     rw [hx] at g0
     have hxk : T.keys[k]? = some x:=by
       have hk' : k < T.keys.length:=by rw [HK.out.2.1];exact hlk
       rw [← hx,List.getD_eq_getElem?_getD,List.getElem?_eq_getElem hk'];rfl
     have htk : T.keys.take (k + 1) = T.keys.take k ++ [x]:=by
       rw [List.take_succ,hxk];rfl
     have HX:=Lh (And.intro htk (List.mem_of_getElem? hxk))
     have HHS:=Lh (has_in x wr.heap.size (wr.alloc (.cells #[.string ⟨#[73,68]⟩,.string ⟨#[73,110,102,111]⟩,.string ⟨#[82,111,111,116]⟩] 9)) (heap_new_at _ _ _ rfl))
     have hblt : b < wr.heap.size:=Nat.lt_of_lt_of_le (HH.out.2.2.2.2 b sb) hbwr.size
     clear hKr hx hxk htk
     cases hkn : knownB x
     · rw [hkn] at HHS
       have HR2:=Lh (show trailB l T = 3 by
         rw [HR.out,HTR.out,if_pos]
         rw [Bool.not_eq_true',List.all_eq_false]
         exact ⟨x,HX.out.2,by rw [hkn];decide⟩)
       clear hkn
       go_wp2_with (first | (go_at_call 123;refine (known_in _).mono ?_;rintro e w5 ⟨rfl,h5⟩;obtain rfl:=h5.symm) | (go_at_call 122;refine HHS.out.mono ?_;rintro e w6 ⟨rfl,h6⟩;obtain rfl:=h6.symm))
       go_ret
       exact ⟨ret_int HR2.out.symm,hbwr.alloc hbwr.size _⟩
     · rw [hkn] at HHS
       have HK2:=Lh hkn
       clear hkn
       go_wp2_with (first | (go_at_call 123;refine (known_in _).mono ?_;rintro e w5 ⟨rfl,h5⟩;obtain rfl:=h5.symm) | (go_at_call 122;refine HHS.out.mono ?_;rintro e w6 ⟨rfl,h6⟩;obtain rfl:=h6.symm))
       go_roundw
       case rel => exact ⟨k + 1,by omega,by go_num,hbr.alloc hzr _,Lh (fun z hz => by
         rw [HX.out.1,List.mem_append] at hz
         rcases hz with hz | hz
         · exact HA.out z hz
         · simp only [List.mem_singleton] at hz;subst hz;exact HK2.out)⟩
       case measure => simp [intOf];omega
   · have HR2 := Lib.hid (show trailB l T = rootB l (R.getD .zero) by
       rw [HR.out,HTR.out,if_neg]
       rw [Bool.not_eq_true',Bool.not_eq_false,List.all_eq_true]
       intro x hx
       exact HA.out x (by rw [List.take_of_length_le (by rw [HK.out.2.1];omega)];exact hx))
     obtain ⟨b0,b1,b2,b3,b4,b5,b6⟩:=seven_of C0
     clear HTR HR HA
     go_wp2_with fail
     refine (HG.out wr hbwr).mono ?_
     cases R with
     | none =>
       rintro e w2 ⟨rfl,hb2⟩
       have HR3:=Lh (show trailB l T = 22 by rw [HR2.out];rfl)
       have hbw2:=hbwr.trans (hb2.mono hbwr.size)
       go_wp2
       go_ret
       exact ⟨ret_int HR3.out.symm,hbw2.alloc hbw2.size _⟩
     | some x =>
       rintro e w2 ⟨y1,f1,y2,f2,rfl,O2,hb2⟩
       have hz2:=hb2.size
       have D0:=(hb2.block _ (by omega)).trans C0
       have hbw2:=hbwr.trans (hb2.mono hbwr.size)
       clear b0 b1 b2 b3 b4 b5 b6
       obtain ⟨b0,b1,b2,b3,b4,b5,b6⟩:=seven_of D0
       have hne : ¬ w.heap.size = w2.heap.size:=by omega
       have hne2 : ¬ w2.heap.size = w.heap.size:=by omega
       have hne3 : w.heap.size < w2.heap.size:=by omega
       by_cases h8 : x.kind = 8
       rotate_left
       · have e8 : (x.kind != 8) = true:=by simpa using h8
         have HR3:=Lh (show trailB l T = 22 by rw [HR2.out];exact if_pos (.inl h8))
         clear h8
         go_wp2
         go_ret
         exact ⟨ret_int HR3.out.symm,hbw2.alloc hbw2.size _⟩
       have e8 : (x.kind != 8) = false:=by simpa using h8
       have hfld : ∀ (k n g : Int) (s : ByteArray) (a b : Value) (w : World),(Instr.field 26 (.agg #[.int .i64 k,.int .i64 n,.int .i64 g,.string s,a,b]) 0).run Tryz.prog w = .ok (.int .i64 k) w:=fun _ _ _ _ _ _ _ => by kernel_rfl
       have HF:=Lh (fun (W : World) (hW : Below w2.heap.size w2 W) => vFollow_in (fun b => b < w2.heap.size) d W (.slice ip n ic) l T.kind T.n T.g ⟨T.s.toArray⟩ p1 p2 n1 c1 n2 c2 _ x
         (by
           have hI2:=HH.out.2.1.kept (w':=W) (fun b h => (hW.block b (Nat.lt_of_lt_of_le (HH.out.2.2.2.2 b h) hbw2.size)).trans (hbw2.block b (HH.out.2.2.2.2 b h)))
           rw [HN.out] at hI2
           exact hI2.weaken (fun b h => Nat.lt_of_lt_of_le (HH.out.2.2.2.2 b h) hbw2.size))
         HH.out.2.2.1 HH.out.2.2.2.1 (ObjAt.kept (S:=fun b => b < w2.heap.size) (w:=w2) (w':=W) (fun b h => hW.block b h) (d + 1) ((O2.weaken (S':=fun b => b < w2.heap.size) (fun b _ h => h) d).up d)) (tame_up d x (HK.out.2.2.2.2 x (getO_mem HRR.out))) (fun b h => Nat.lt_of_lt_of_le h hW.size))
       unfold objCells at HF
       have HR3:=Lh (show trailB l T = if (followO l x).kind ≠ 7 then 22 else 0 by
         rw [HR2.out]
         unfold rootB
         rw [show (some x).getD .zero = x from rfl]
         by_cases h : (followO l x).kind ≠ 7
         · rw [if_pos h,if_pos (.inr h)]
         · rw [if_neg h,if_neg (by simp only [not_or];exact ⟨by simp [h8],h⟩)])
       clear h8 O2 hb2
       go_wp2_with fail
       refine (HF.out _ bel).mono ?_
       rintro e w3 ⟨g1,u1,g2,u2,rfl,_,hb3⟩
       have hbw3 : Below w.heap.size w w3:=(hbw2.alloc hbw2.size (.cells #[.int .i64 x.kind,.int .i64 x.n,.int .i64 x.g,.string ⟨x.s.toArray⟩,.slice y1 x.keys.length f1,.slice y2 x.kids.length f2] 26)).trans (hb3.mono (by simp;have:=hbw2.size;omega))
       by_cases hy : (followO l x).kind = 7
       · have ey : ((followO l x).kind != 7) = false:=by simpa using hy
         have HR4:=Lh (show trailB l T = 0 by rw [HR3.out,if_neg (by simp [hy])])
         clear hy
         go_wp2
         go_ret
         exact ⟨ret_int HR4.out.symm,hbw3⟩
       · have ey : ((followO l x).kind != 7) = true:=by simpa using hy
         have HR4:=Lh (show trailB l T = 22 by rw [HR3.out,if_pos hy])
         clear hy
         go_wp2
         go_ret
         exact ⟨ret_int HR4.out.symm,hbw3⟩
def DocAt (S : Nat → Prop) (d : Nat) (w : World) (cs : List Value) (D : Dc) : Prop :=
 ∃ iv tc,cs = iv :: tc ∧ ItemsAt S (d + 1) w iv D.items ∧ D.items.length ≤ 1000000 ∧ (∀ i ∈ D.items,smallO (d + 1) i.ob) ∧ ObjAt S (d + 1) w tc D.trail ∧ smallO (d + 1) D.trail
theorem items_tame {S : Nat → Prop} {d : Nat} {w : World} {v : Value} {l : List It} (h : ItemsAt S (d + 1) w v l) (h0 : itemsB none l = 0) : ∀ i ∈ l,tameO (d + 1) i.ob:=by
 intro i hi
 have hc:=((itemsB_iff none l).1 h0).all i hi
 obtain ⟨k,hk,rfl⟩:=List.mem_iff_getElem.1 hi
 rcases h with ⟨e,_⟩ | ⟨b,off,c,_,_,h3⟩
 · rw [e] at hk;exact absurd hk (Nat.not_lt_zero _)
 · obtain ⟨v0,v1,v2,v3,v4,v5,_,_,_,_,_,_,_,_,a8⟩:=h3 k hk
   refine tame_of (d + 1) 24 _ _ a8 ?_
   have:=hc.2
   unfold contB at this
   by_cases h : checkB 24 l[k].ob = 0
   · exact h
   · rw [if_pos h] at this;exact absurd this h
theorem dCheck_in (S : Nat → Prop) (d : Nat) (w : World) (cs : List Value) (D : Dc) (h : DocAt S d w cs D) (hS : ∀ b, S b → b < w.heap.size) :
   Calls Tryz.prog 45 #[.agg cs.toArray] w fun e w' => e = .returned (.int .i64 (docB D)) ∧ Below w.heap.size w w':=by
 obtain ⟨iv,tc,rfl,hI,hl,hsI,hO,hsT⟩:=h
 have HI:=Lh (fun (W : World) (hW : Below w.heap.size w W) => items_in S d iv D.items W (hI.kept (fun b h => hW.block b (hS b h))) hl hsI (fun b h => Nat.lt_of_lt_of_le (hS b h) hW.size))
 obtain ⟨p1,n1,c1,p2,n2,c2,rfl⟩:=hO.shape
 have HT:=Lh (fun (h0 : itemsB none D.items = 0) (W : World) (hW : Below w.heap.size w W) => trail_in S d W iv D.items _ D.trail p1 p2 n1 c1 n2 c2 rfl (hI.kept (fun b h => hW.block b (hS b h))) hl (items_tame hI h0) (hO.kept (fun b h => hW.block b (hS b h)) (d + 1)) hsT (fun b h => Nat.lt_of_lt_of_le (hS b h) hW.size))
 have HD:=Lh (show docB D = if itemsB none D.items ≠ 0 then itemsB none D.items else trailB D.items D.trail from rfl)
 obtain ⟨ip,ic,rfl⟩:=hI.slice
 unfold objCells
 obtain ⟨n,hn⟩ : ∃ n,D.items.length = n:=⟨_,rfl⟩
 rw [hn] at HI HT ⊢
 obtain ⟨C,hC⟩ : ∃ C,itemsB none D.items = C:=⟨_,rfl⟩
 rw [hC] at HI HT HD
 clear hI hl hsI hO hsT hS hn hC
 by_cases hC0 : C = 0
 · subst hC0
   have HR:=Lh (show docB D = trailB D.items D.trail by rw [HD.out];simp)
   go_enter Tryz.func45,Tryz.ntmps45
   go_wp2_with fail
   refine (HI.out _ bel).mono ?_
   rintro e w1 ⟨rfl,hb1⟩
   have hz1:=hb1.size
   simp at hz1
   obtain ⟨hc1,hf1⟩:=bcell hb1
   go_wp2_with fail
   refine (HT.out (by trivial) _ bel).mono ?_
   rintro e w2 ⟨rfl,hb2⟩
   have hz2:=hb2.size
   go_wp2
   go_ret
   exact ⟨ret_int HR.out.symm,bel⟩
 · have HR:=Lh (show docB D = C by rw [HD.out,if_pos hC0])
   have eC : (C != 0) = true:=by simpa using hC0
   clear hC0
   go_enter Tryz.func45,Tryz.ntmps45
   go_wp2_with fail
   refine (HI.out _ bel).mono ?_
   rintro e w1 ⟨rfl,hb1⟩
   have hz1:=hb1.size
   simp at hz1
   go_wp2
   go_ret
   exact ⟨ret_int HR.out.symm,bel⟩
theorem getO_no {o : Ob} {key : L} (h : key ∉ o.keys) : getO o key = none:=by
 unfold getO
 split
 · rw [idxS_none (fun j hj e => h (by rw [← e];exact List.getElem_mem hj))]
 · rfl
structure Ov where
 k : Int
 n : Int
 g : Int
 s : ByteArray
 p1 : Option Addr
 n1 : Nat
 c1 : Nat
 p2 : Option Addr
 n2 : Nat
 c2 : Nat
def encOv : Enc Ov where
 k:=6
 cells x:=[.int .i64 x.k,.int .i64 x.n,.int .i64 x.g,.string x.s,.slice x.p1 x.n1 x.c1,.slice x.p2 x.n2 x.c2]
 len _:=rfl
 one x u hu:=by
   simp only [List.mem_cons,List.not_mem_nil,or_false] at hu
   rcases hu with rfl | rfl | rfl | rfl | rfl | rfl <;> rfl
def encK : Enc L where
 k:=1
 cells x:=[.string ⟨x.toArray⟩]
 len _:=rfl
 one x u hu:=by simp at hu;subst hu;rfl
theorem Tryz.infoKs : (Tryz.prog.info? 9).map (fun i => (i.zero,i.size,i.bytes)) = some (some (.string ⟨#[]⟩),1,16):=by kernel_rfl
theorem Tryz.infoOs : (Tryz.prog.info? 26).map (fun i => (i.zero,i.size,i.bytes)) = some (some (.agg #[.int .i64 0,.int .i64 0,.int .i64 0,.string ⟨#[]⟩,.slice none 0 0,.slice none 0 0]),6,88):=by kernel_rfl
def OvsAt (S : Nat → Prop) (d : Nat) (w : World) (vs : List Ov) (os : List Ob) : Prop:=vs.length = os.length ∧ ∀ (i : Nat) (v : Ov) (o : Ob),vs[i]? = some v → os[i]? = some o → ObjAt S d w (encOv.cells v) o
theorem OvsAt.nil (S : Nat → Prop) (d : Nat) (w : World) : OvsAt S d w [] []:=⟨rfl,fun i v o h => by simp at h⟩
theorem OvsAt.kept {S : Nat → Prop} {d : Nat} {w w' : World} {vs : List Ov} {os : List Ob} (h : OvsAt S d w vs os) (hk : ∀ b,S b → w'.heap[b]? = w.heap[b]?) : OvsAt S d w' vs os :=
 ⟨h.1,fun i v o hv ho => (h.2 i v o hv ho).kept hk d⟩
theorem OvsAt.push {S : Nat → Prop} {d : Nat} {w : World} {vs : List Ov} {os : List Ob} {v : Ov} {o : Ob} (h : OvsAt S d w vs os) (hv : ObjAt S d w (encOv.cells v) o) : OvsAt S d w (vs ++ [v]) (os ++ [o]):=by
 refine ⟨by simp [h.1],fun i v' o' h1 h2 => ?_⟩
 by_cases hi : i < vs.length
 · rw [List.getElem?_append_left hi] at h1
   rw [List.getElem?_append_left (by rw [← h.1];exact hi)] at h2
   exact h.2 i v' o' h1 h2
 · rw [List.getElem?_append_right (by omega)] at h1
   rw [List.getElem?_append_right (by rw [← h.1];omega)] at h2
   have hz : i - vs.length = 0:=by
     have:=(List.getElem?_eq_some_iff.1 h1).1
     simp at this;omega
   rw [hz] at h1
   rw [← h.1,hz] at h2
   cases h1
   cases h2
   exact hv
theorem row_addr {α : Type} {E : Enc α} {t : TypeId} {w : World} {B : Nat} {v : Value} {xs : List α} (h : rownS E t w B v xs) (hne : xs ≠ []) : ∃ g c, v = .slice (some ⟨g, 0, none⟩) xs.length c ∧ B ≤ g ∧ g < w.heap.size ∧
   ∀ j (hj : j < xs.length) i u,(E.cells xs[j])[i]? = some u → w.cell? ⟨g,j * E.k + i,none⟩ = some u:=by
 have ha:=h.arg
 rcases h with ⟨h0,⟨rfl,h1⟩ | ⟨g,cap,cur,rfl,h2,h3,_⟩⟩
 · exact absurd (List.eq_nil_of_length_eq_zero h1) hne
 · refine ⟨g,cap,rfl,h2,(Array.getElem?_eq_some_iff.1 h3).1,fun j hj i u hu => ?_⟩
   obtain ⟨p,c,e,hA⟩:=ha
   cases e
   obtain ⟨g',off,e1,_,hc⟩:=hA j hj
   cases e1
   have:=hc i u hu
   rw [Nat.zero_add] at this
   exact this
theorem keysAt_row {w : World} {B : Nat} {v : Value} {ks : List L} (h : rownS encK 9 w B v ks) : KeysAt (fun b => B ≤ b) w v ks:=by
 by_cases hne : ks = []
 · subst hne
   obtain ⟨p,c,rfl⟩:=rown_slice h
   exact .inl ⟨rfl,_,_,rfl⟩
 · obtain ⟨g,c,rfl,hB,_,hc⟩:=row_addr h hne
   refine .inr ⟨g,0,c,rfl,hB,fun i hi => ?_⟩
   have:=hc i hi 0 _ rfl
   rw [show i * encK.k + 0 = 0 + i by show i * 1 + 0 = 0 + i;omega] at this
   exact this
theorem obj_rows {S : Nat → Prop} {d : Nat} {w : World} {B : Nat} {kv dv : Value} {ks : List L} {vs : List Ov} {os : List Ob} {K N G : Int} {s : L} (h1 : rownS encK 9 w B kv ks) (h2 : rownS encOv 26 w B dv vs) (h3 : OvsAt S d w vs os) :
   ObjAt (fun b => B ≤ b ∨ S b) (d + 1) w (objCells K N G s kv dv) (.mk K N G s ks os):=by
 refine ⟨kv,dv,rfl,?_,?_⟩
 · rcases keysAt_row h1 with h | ⟨b,o,c,e,hb,hc⟩
   · exact .inl h
   · exact .inr ⟨b,o,c,e,.inl hb,hc⟩
 · by_cases hne : vs = []
   · subst hne
     have h0 : os = []:=List.eq_nil_of_length_eq_zero h3.1.symm
     obtain ⟨p,c,rfl⟩:=rown_slice h2
     exact .inl ⟨h0,_,_,rfl⟩
   · obtain ⟨g,c,rfl,hB,_,hc⟩:=row_addr h2 hne
     refine .inr ⟨g,0,c,by rw [h3.1];rfl,.inl hB,fun i hi => ?_⟩
     have hi' : i < vs.length:=by rw [h3.1];exact hi
     have hO:=h3.2 i vs[i] os[i] (List.getElem?_eq_getElem hi') (List.getElem?_eq_getElem hi)
     refine ⟨encOv.cells vs[i],rfl,fun j hj => ?_,hO.weaken (fun b h _ => .inr h) d⟩
     have:=hc i hi' j _ (List.getElem?_eq_getElem hj)
     rw [show 0 + 6 * i + j = i * encOv.k + j by show 0 + 6 * i + j = i * 6 + j;omega]
     exact this
theorem row_other {α : Type} {E : Enc α} {t t2 : TypeId} {w w' : World} {B s2 m : Nat} {v v2 : Value} {xs : List α} {ys : List Value} (h : rownS E t w B v xs) (h2 : w.ownsRow B t2 s2 v2 m ys) (ht : t ≠ t2) (hg : w.grownBy w' v2.ownBlock) : rownS E t w' B v xs:=by
 refine World.ownsRow.kept h hg ?_
 have h1 : w.ownsRow B t E.k v xs.length (E.row xs):=h
 rcases h1.2 with ⟨rfl,_⟩ | ⟨g,cap,cur,rfl,_,hg1,_⟩
 · exact .inl rfl
 · rcases h2.2 with ⟨rfl,_⟩ | ⟨g2,cap2,cur2,rfl,_,hg2,_⟩
   · exact .inr (by simp [Value.ownBlock])
   · refine .inr fun e => ?_
     simp [Value.ownBlock] at e
     subst e
     rw [hg1] at hg2
     simp at hg2
     exact ht hg2.2
end Go.Proofs.YtfgdhcemidlnfaaGreatDoor
