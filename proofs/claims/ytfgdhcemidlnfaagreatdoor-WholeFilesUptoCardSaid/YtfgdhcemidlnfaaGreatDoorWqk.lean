/- Parts of the proof: GBo WfI GTb RkL WfJ WfK Str Whole FixB RkJ. -/
import Derived.Test.YtfgdhcemidlnfaaGreatDoorWqi
import Derived.Test.YtfgdhcemidlnfaaGreatDoorWqg
import Derived.Recover
import Derived.Test.YtfgdhcemidlnfaaGreatDoorWqj
import Derived.Test.YtfgdhcemidlnfaaGreatDoorWqh
import Derived.Deep.QuietTactic
import Derived.BigQuiet
import Derived.Test.YtfgdhcemidlnfaaGreatDoorWqe
import Derived.Test.YtfgdhcemidlnfaaGreatDoorWqc
import Derived.Test.YtfgdhcemidlnfaaGreatDoorWqb
import Derived.Maps.OwnSet
import Derived.OwnWalk
import Derived.Shelf.Strings.BuilderK
import Derived.Deep.AppendLies
import Derived.Deep.RegionWith
import Derived.Lib.IndexAny
import Derived.Defers
import Derived.Test.YtfgdhcemidlnfaaGreatDoorWqd
import Derived.Deep.DeepCutAuto
import Derived.Test.YtfgdhcemidlnfaaGreatDoorWqa
import Derived.Lib.AppendStr
import Derived.Deep.RegionHeld3
import Derived.Sort.EncStr
import Derived.Sort.Walk0
set_option linter.all false
set_option maxRecDepth 100000
set_option maxHeartbeats 8000000
namespace Go.Proofs.YtfgdhcemidlnfaaGreatDoor
open Go.RowKit Fo
theorem need_yes (k : Int) (w : World) : Calls Tryz.prog 171 #[.bool true,.int .i64 k] w fun e w' => e = .returned (.tuple #[]) ∧ w' = w:=by
 go_enter Tryz.func171,Tryz.ntmps171
 go_wp2
 go_end0
 exact ⟨rfl,rfl⟩
theorem musts_yes (s : L) (w : World) : Calls Tryz.prog 131 #[.string ⟨s.toArray⟩,.int .i64 0] w fun e w' => e = .returned (.string ⟨s.toArray⟩) ∧ w' = w:=by
 have HN:=Lh (fun W => need_yes 0 W)
 go_enter Tryz.func131,Tryz.ntmps131
 go_wp2_with fail
 refine (HN.out _).mono ?_
 rintro e w1 ⟨rfl,rfl⟩
 go_wp2
 go_ret
 exact ⟨rfl,rfl⟩
theorem musto_yes (k n g : Int) (s : L) (p1 p2 : Option Addr) (n1 c1 n2 c2 : Nat) (w : World) :
   Calls Tryz.prog 132 #[.agg #[.int .i64 k,.int .i64 n,.int .i64 g,.string ⟨s.toArray⟩,.slice p1 n1 c1,.slice p2 n2 c2],.int .i64 0] w fun e w' => e = .returned (.agg #[.int .i64 k,.int .i64 n,.int .i64 g,.string ⟨s.toArray⟩,.slice p1 n1 c1,.slice p2 n2 c2]) ∧ Below w.heap.size w w':=by
 have HN:=Lh (fun W => need_yes 0 W)
 go_enter Tryz.func132,Tryz.ntmps132
 go_wp2_with fail
 refine (HN.out _).mono ?_
 rintro e w1 ⟨rfl,rfl⟩
 go_wp2
 refine bodyPost_ret (v:=.agg #[.int .i64 k,.int .i64 n,.int .i64 g,.string ⟨s.toArray⟩,.slice p1 n1 c1,.slice p2 n2 c2]) ?_ rfl ⟨rfl,bel⟩
 simp [results,Tryz.results132,go_sem]
theorem eight_in {w : World} {b : Nat} {t : TypeId} {v0 v1 v2 v3 v4 v5 v6 v7 : Value} (h : w.heap[b]? = some (.cells #[v0, v1, v2, v3, v4, v5, v6, v7] t (0, 0))) :
   w.cell? ⟨b,0,none⟩ = some v0 ∧ w.cell? ⟨b,1,none⟩ = some v1 ∧ w.cell? ⟨b,2,none⟩ = some v2 ∧ w.cell? ⟨b,3,none⟩ = some v3 ∧ w.cell? ⟨b,4,none⟩ = some v4 ∧ w.cell? ⟨b,5,none⟩ = some v5 ∧ w.cell? ⟨b,6,none⟩ = some v6 ∧ w.cell? ⟨b,7,none⟩ = some v7:=by
 simp [World.cell?,h]
theorem bcheck_in (S : Nat → Prop) (d : Nat) (num gen k n g : Int) (s : L) (p1 p2 : Option Addr) (m1 c1 m2 c2 : Nat) (o : Ob) (w : World)
   (h1 : 1 ≤ num) (h2 : num ≤ 8191) (h3 : 0 ≤ gen) (h4 : gen ≤ 65535) (hk : k ≠ 8)
   (ho : ObjAt S d w [.int .i64 k,.int .i64 n,.int .i64 g,.string ⟨s.toArray⟩,.slice p1 m1 c1,.slice p2 m2 c2] o) (hsm : smallO d o) (hS : ∀ b,S b → b < w.heap.size) (hc : checkB 24 o = 0) :
   Calls Tryz.prog 129 #[.agg #[.int .i64 num,.int .i64 gen,.int .i64 k,.int .i64 n,.int .i64 g,.string ⟨s.toArray⟩,.slice p1 m1 c1,.slice p2 m2 c2]] w fun e w' => e = .returned (.int .i64 0) ∧ Below w.heap.size w w':=by
 have HC:=Lh (fun (W : World) (hW : Below w.heap.size w W) => vCheck_in S d W _ o (ho.kept (fun b h => hW.block b (hS b h)) d) hsm (fun b h => Nat.lt_of_lt_of_le (hS b h) hW.size))
 rw [hc] at HC
 have X:=Lh (heap_new_at w (.cells #[.int .i64 num,.int .i64 gen,.int .i64 k,.int .i64 n,.int .i64 g,.string ⟨s.toArray⟩,.slice p1 m1 c1,.slice p2 m2 c2] 50) _ rfl)
 have d1 : decide (num < 1) = false:=decide_eq_false (by omega)
 have d2 : decide (8191 < num) = false:=decide_eq_false (by omega)
 have d3 : decide (gen < 0) = false:=decide_eq_false (by omega)
 have d4 : decide (65535 < gen) = false:=decide_eq_false (by omega)
 have hbw0 : Below w.heap.size w (w.alloc (.cells #[.int .i64 num,.int .i64 gen,.int .i64 k,.int .i64 n,.int .i64 g,.string ⟨s.toArray⟩,.slice p1 m1 c1,.slice p2 m2 c2] 50)):=(Below.refl _ w).alloc (Nat.le_refl _) _
 clear h1 h2 h3 h4 ho hsm hS hc
 go_enter Tryz.func129,Tryz.ntmps129
 go_wp2_with fail
 refine (HC.out _ hbw0).mono ?_
 rintro e w1 ⟨rfl,hb1⟩
 obtain ⟨z0,z1,z2,z3,z4,z5,z6,z7⟩:=eight_in ((hb1.block _ (by simp)).trans X.out)
 have hb01:=hbw0.trans (hb1.mono hbw0.size)
 go_wp2
 go_ret
 exact ⟨rfl,hb01⟩
theorem bcaught_nil (p : Addr) (w : World) : Calls Tryz.prog 127 #[.nilIface,.pointer (some p)] w fun e w' => e = .returned (.tuple #[]) ∧ w' = w:=by
 go_enter Tryz.func127,Tryz.ntmps127
 go_wp2
 go_end0
 exact ⟨rfl,rfl⟩
theorem btext1_idle (b b2 : Nat) (w : World) (hc : w.cell? ⟨b, 0, none⟩ = some (.int .i64 0)) :
   CallsD Tryz.prog 126 #[.pointer (some ⟨b,0,none⟩),.pointer (some ⟨b2,0,none⟩)] .returning w fun e u' w' => e = .returned (.tuple #[]) ∧ u' = .returning ∧ w' = w:=by
 refine callsD_of_wpS Tryz.func126 rfl fun c₀ cs hu => ?_
 simp only [Tryz.ntmps126,List.size_toArray,List.length_cons,List.length_nil,Nat.reduceAdd,Nat.reduceSub,Array.replicate_succ,Array.replicate_zero,List.push_toArray,List.append_toArray,List.nil_append,List.cons_append]
 apply wpS_seq
 apply wpS_region
 simp [wpOpsS,go_sem,recoverD,hu,Tryz.ntmps126,Exit.thenS]
 refine (bcaught_nil _ _).mono ?_
 rintro e w' ⟨rfl,rfl⟩
 refine wpS_of_wp ?_
 go_wp2
 cases c₀
 simp_all [bodyPostS,results,Tryz.results126]
theorem musti_yes (num gen k n g : Int) (s : L) (p1 p2 : Option Addr) (n1 c1 n2 c2 : Nat) (w : World) :
   Calls Tryz.prog 128 #[.agg #[.int .i64 num,.int .i64 gen,.int .i64 k,.int .i64 n,.int .i64 g,.string ⟨s.toArray⟩,.slice p1 n1 c1,.slice p2 n2 c2],.int .i64 0] w fun e w' => (∃ v,e = .returned v) ∧ Below w.heap.size w w':=by
 have HN:=Lh (fun W => need_yes 0 W)
 go_enter Tryz.func128,Tryz.ntmps128
 go_wp2_with fail
 refine (HN.out _).mono ?_
 rintro e w1 ⟨rfl,rfl⟩
 go_wp2
 refine bodyPost_ret (v:=.agg #[.int .i64 num,.int .i64 gen,.int .i64 k,.int .i64 n,.int .i64 g,.string ⟨s.toArray⟩,.slice p1 n1 c1,.slice p2 n2 c2]) ?_ rfl ⟨⟨_,rfl⟩,bel⟩
 simp [results,Tryz.results128,go_sem]
theorem keys_few {n : Nat} {o : Ob} (hk : ChkOk n o) : o.keys.length ≤ 8192:=by
 have hu:=hk.uses
 by_cases h79 : o.kind = 7 ∨ o.kind = 9
 · have:=((keysB_iff o h79).1 hk.keys).len
   have:=hk.many
   omega
 · have he : o.keys = [] := by
     rw [← usesP_eq] at hu
     unfold usesP at hu
     obtain ⟨⟨un,ug,us,uk,ud,ok⟩,hT⟩ : ∃ u,usedV o.kind = u:=⟨_,rfl⟩
     have huk:=used_keys hT
     rw [hT] at hu
     rw [decide_eq_false h79] at huk
     subst huk
     simp at hu
     simp_all
   rw [he];decide
theorem okO_tame : ∀ (d : Nat) (o : Ob),okO d o → tameO d o
 | 0,_,h => h.elim
 | d + 1,o,h => ⟨keys_few ((checkB_iff d o).1 (okO_check (d + 1) o h)),by have:=h.2.2.2.2.1;omega,fun x hx => okO_tame d x (h.2.2.2.2.2.2 x hx)⟩
theorem int_at (S : Nat → Prop) (d : Nat) (w : World) (n : Int) : ObjAt S (d + 1) w [.int .i64 2,.int .i64 n,.int .i64 0,.string ⟨#[]⟩,.slice none 0 0,.slice none 0 0] (.int n) :=
 ⟨_,_,rfl,.inl ⟨rfl,_,_,rfl⟩,.inl ⟨rfl,_,_,rfl⟩⟩
theorem dict_at {S : Nat → Prop} {d : Nat} {w : World} {o : Ob} {kv dv : Value} (h : ObjAt S d w (objCells o.kind o.n o.g o.s kv dv) o) : ObjAt S d w (objCells 7 0 0 [] kv dv) (.mk 7 0 0 [] o.keys o.kids):=by
 cases d with
 | zero => exact h.elim
 | succ d =>
   obtain ⟨kv',dv',e,hK,hR⟩:=h
   unfold objCells at e
   simp only [List.cons.injEq,and_true,true_and] at e
   obtain ⟨rfl,rfl⟩:=e
   exact ⟨_,_,rfl,hK,hR⟩
theorem setL_in (S : Nat → Prop) (d : Nat) (w : World) (o : Ob) (p1 p2 : Option Addr) (n1 c1 n2 c2 : Nat) (h : ObjAt S d w (objCells o.kind o.n o.g o.s (.slice p1 n1 c1) (.slice p2 n2 c2)) o) (h9 : o.kind = 9) (hc : checkB 24 o = 0) (hcL : checkB 24 (lenO o) = 0) (hS : ∀ b, S b → b < w.heap.size) :
   Calls Tryz.prog 48 #[.agg #[.int .i64 7,.int .i64 0,.int .i64 0,.string ⟨#[]⟩,.slice p1 n1 c1,.slice p2 n2 c2],.string ⟨#[76,101,110,103,116,104]⟩,.agg #[.int .i64 2,.int .i64 (o.s.length : Nat),.int .i64 0,.string ⟨#[]⟩,.slice none 0 0,.slice none 0 0]] w (SetOut 24 w (lenO o)):=by
 have hd:=dict_chk hc h9
 have hok:=okO_of_check hd (show (7 : Int) ≠ 9 by decide)
 have hokL:=okO_of_check hcL (by rw [lenO_kind];decide)
 obtain ⟨hno,hlen,_,_⟩:=lenO_drop hc h9
 have:=vSet_in S 23 w _ _ (.mk 7 0 0 [] o.keys o.kids) (.int o.s.length) wLength (obj_at_ok 24 d (dict_at h) hok) (int_at S 22 w _) hS (.inl rfl) hd hcL hno (show (2 : Int) ≠ 0 by decide) (okO_small _ _ hok) (okO_small _ _ hokL) (okO_tame _ _ hokL) (((checkB_iff 23 _).1 hd).many)
 exact this
theorem r5place (S : Nat → Prop) (w : World) (p : Option Addr) (n c : Nat) (ks : List L) (key : L) (hK : KeysAt S w (.slice p n c) ks) (hn : ks.length = n) (hl : n ≤ 8192) (hab : key ∉ ks) :
   Calls Tryz.prog 98 #[.slice p n c,.string ⟨key.toArray⟩] w fun e w' => e = .returned (.tuple #[.int .i64 (lowS ks key : Nat),.bool false]) ∧ Below w.heap.size w w':=by
 have HK:=Lh (And.intro hK (And.intro hn hab))
 clear hK hn hab
 go_enter Tryz.func98,Tryz.ntmps98
 go_wp2
 go_loop [6] (fun iv => ∃ k : Nat,k ≤ n ∧ iv = .int .i64 k ∧ Hid (∀ j (h : j < ks.length),j < k → ks[j] < key)) (fun iv => n - (intOf iv).toNat)
 case atStart => exact ⟨0,Nat.zero_le _,rfl,Lh (fun j h h2 => absurd h2 (Nat.not_lt_zero _))⟩
 case round =>
   obtain ⟨k,hk,rfl,HA⟩:=hrel
   by_cases hlk : k < n
   · obtain ⟨b1, f1, rfl⟩ : ∃ b off, p = some ⟨b, off, none⟩ := by
       rcases HK.out.1 with ⟨e,_⟩ | ⟨b,off,c,e,_⟩
       · have:=HK.out.2.1;rw [e] at this;simp at this;omega
       · cases e;exact ⟨_,_,rfl⟩
     obtain ⟨s1,g1⟩:=key_at HK.out.1 HK.out.2.1 k hlk
     have hkl : k < ks.length:=by rw [HK.out.2.1];exact hlk
     have hgd : ks.getD k [] = ks[k]:=by simp [List.getD,hkl]
     obtain ⟨x,hx⟩ : ∃ x,ks[k] = x:=⟨_,rfl⟩
     rw [hgd,hx] at g1
     have hne : ¬ x = key:=fun e => HK.out.2.2 (by rw [← e,← hx];exact List.getElem_mem hkl)
     have e1 : (x == key) = false:=by simpa using hne
     have v1 : (0 : Int) ≤ k:=by omega
     have v2 : (k : Int) < n:=by omega
     cases hle : Op.bytesLess x key
     · have HL:=Lh (show lowS ks key = k from lowS_of ks key k (by omega) (fun j h h2 => HA.out j h h2) (fun h => by rw [hx];rw [bytesLess_eq,decide_eq_false_iff_not] at hle;exact hle))
       clear hgd hx hne
       go_wp2_with fail
       go_quiet (fail)
       go_wp2
       go_ret2
       exact ⟨by rw [HL.out];rfl,bel⟩
     · have HN := Lib.hid (show ∀ j (h : j < ks.length), j < k + 1 → ks[j] < key from fun j h h2 => by
         by_cases e : j = k
         · subst e;rw [hx];rw [bytesLess_eq,decide_eq_true_eq] at hle;exact hle
         · exact HA.out j h (by omega))
       clear hgd hx hne
       go_wp2
       go_round
       case rel => exact ⟨k + 1,by omega,by go_num,HN⟩
       case measure => simp [intOf];omega
   · have HL:=Lh (show lowS ks key = k from lowS_of ks key k (by rw [HK.out.2.1];omega) (fun j h h2 => HA.out j h h2) (fun h => by rw [HK.out.2.1] at h;omega))
     go_wp2_with fail
     go_quiet (fail)
     go_wp2
     go_ret2
     exact ⟨by rw [HL.out];rfl,bel⟩
theorem RArg.take {α : Type} {E : Enc α} {w : World} {p : Option Addr} {n c q : Nat} {xs : List α} (h : RArg E w (.slice p n c) xs) (hq : q ≤ xs.length) : RArg E w (.slice p q c) (xs.take q):=by
 obtain ⟨p',c',e,h⟩:=h
 cases e
 refine ⟨p,c,by simp [Nat.min_eq_left hq],fun j hj => ?_⟩
 have hj2 : j < xs.length:=by simp at hj;omega
 obtain ⟨g,off,e,hg,hc⟩:=h j hj2
 refine ⟨g,off,e,hg,fun i u hu => hc i u ?_⟩
 rw [List.getElem_take] at hu
 exact hu
theorem RArg.drop {α : Type} {E : Enc α} {w : World} {b off n c c2 q m : Nat} {xs : List α} (h : RArg E w (.slice (some ⟨b,off,none⟩) n c) xs) (hm : xs.length - q = m) : RArg E w (.slice (some ⟨b,off + q * E.k,none⟩) m c2) (xs.drop q):=by
 obtain ⟨p',c',e,h⟩:=h
 cases e
 refine ⟨some ⟨b,off + q * E.k,none⟩,c2,by simp [hm],fun j hj => ?_⟩
 have hj2 : q + j < xs.length:=by simp at hj;omega
 obtain ⟨g,off',e,hg,hc⟩:=h (q + j) hj2
 cases e
 refine ⟨b,off + q * E.k,rfl,hg,fun i u hu => ?_⟩
 rw [List.getElem_drop] at hu
 have:=hc i u hu
 rw [Nat.add_mul,← Nat.add_assoc] at this
 exact this
theorem keys_arg {S : Nat → Prop} {w : World} {v : Value} {ks : List L} (hK : KeysAt S w v ks) (hS : ∀ b,S b → b < w.heap.size) : RArg encK w v ks:=by
 rcases hK with ⟨rfl,p,c,rfl⟩ | ⟨b,off,c,rfl,h2,h3⟩
 · exact ⟨p,c,rfl,fun j hj => absurd hj (Nat.not_lt_zero _)⟩
 · refine ⟨_,c,rfl,fun j hj => ⟨b,off,rfl,hS b h2,fun i u hu => ?_⟩⟩
   have hi : i = 0:=by
     have:=(List.getElem?_eq_some_iff.1 hu).1
     rw [encK.len] at this
     exact Nat.lt_one_iff.1 this
   subst hi
   simp [encK] at hu
   subst hu
   have:=h3 j hj
   show w.cell? ⟨b,off + j * 1 + 0,none⟩ = _
   rw [Nat.mul_one,Nat.add_zero]
   exact this
theorem kids_arg {S : Nat → Prop} {d : Nat} {w : World} {v : Value} {os : List Ob} (hR : RowAt S d w v os) (hS : ∀ b,S b → b < w.heap.size) : ∃ vs : List Ov,RArg encOv w v vs ∧ OvsAt S d w vs os:=by
 rcases hR with ⟨rfl,p,c,rfl⟩ | ⟨b,off,c,rfl,h2,h3⟩
 · exact ⟨[],⟨p,c,rfl,fun j hj => absurd hj (Nat.not_lt_zero _)⟩,OvsAt.nil _ _ _⟩
 · have hh : ∀ j : Nat, ∃ v : Ov, ∀ h : j < os.length, (∀ i u, (encOv.cells v)[i]? = some u → w.cell? ⟨b, off + j * 6 + i, none⟩ = some u) ∧ ObjAt S d w (encOv.cells v) os[j] := by
     intro j
     by_cases hj : j < os.length
     · obtain ⟨ks,g1,g2,g3⟩:=h3 j hj
       obtain ⟨p1,n1,c1,p2,n2,c2,rfl⟩:=g3.form
       refine ⟨⟨os[j].kind,os[j].n,os[j].g,⟨os[j].s.toArray⟩,p1,n1,c1,p2,n2,c2⟩,fun _ => ⟨fun i u hu => ?_,g3⟩⟩
       have hi : i < 6:=by have:=(List.getElem?_eq_some_iff.1 hu).1;rw [encOv.len] at this;exact this
       have hi2 : i < (objCells os[j].kind os[j].n os[j].g os[j].s (.slice p1 n1 c1) (.slice p2 n2 c2)).length:=hi
       have:=g2 i hi2
       rw [show off + 6 * j + i = off + j * 6 + i by omega] at this
       rw [this];exact (List.getElem?_eq_getElem hi2).symm.trans hu
     · exact ⟨⟨0,0,0,⟨#[]⟩,none,0,0,none,0,0⟩,fun h => absurd h hj⟩
   obtain ⟨f,hf⟩:=Classical.axiomOfChoice hh
   refine ⟨(List.range os.length).map f,⟨_,c,by simp,fun j hj => ⟨b,off,rfl,hS b h2,fun i u hu => ?_⟩⟩,by simp,fun i v o hv ho => ?_⟩
   · have hj2 : j < os.length:=by simpa using hj
     refine (hf j hj2).1 i u ?_
     simpa using hu
   · obtain ⟨hi,rfl⟩:=List.getElem?_eq_some_iff.1 ho
     simp [hi] at hv
     subst hv
     exact (hf i hi).2
theorem rest_run {α : Type} {E : Enc α} {T t : TypeId} (hu : Tryz.prog.underlying T = some (.slice t)) (hs : ∀ w, (sizeOf t).run Tryz.prog w = .ok E.k w) (p : Option Addr) (n c q : Nat) (hq : q ≤ n) (hnc : n ≤ c) (hpc : p = none → c = 0) :
   ∃ P1 : Option Addr,(∀ w : World,(Instr.slice T (.slice p n c) (some (.int .i64 (q : Nat))) none none).run Tryz.prog w = .ok (.slice P1 (n - q) (c - q)) w) ∧ (∀ (w : World) (xs : List α),RArg E w (.slice p n c) xs → RArg E w (.slice P1 (n - q) (c - q)) (xs.drop q)) ∧ (P1 = none → c - q = 0):=by
 have ht : Tryz.prog.underlying T = some (.slice (Tryz.prog.elem T)):=by simp [Program.elem,hu]
 have he : Tryz.prog.elem T = t:=by rw [hu] at ht;simpa using ht.symm
 refine ⟨if c = q then p else p.map (·.add (q * E.k)),fun w => ?_,fun w xs h => ?_,fun h => ?_⟩
 · rw [run_slice_l w T p n c ht .i64 (q : Int) (by omega) (by omega),he,hs]
   rfl
 · obtain ⟨p',c',e,h0⟩:=id h
   cases e
   by_cases hx : xs.length - q = 0
   · have hd : xs.drop q = []:=List.drop_eq_nil_of_le (by omega)
     refine ⟨_,c - q,by rw [hd,hx];rfl,fun j hj => ?_⟩
     rw [hd] at hj;exact absurd hj (Nat.not_lt_zero _)
   · obtain ⟨g,off,e,_⟩:=h0 0 (by omega)
     subst e
     by_cases hcq : c = q
     · omega
     · rw [if_neg hcq]
       have:=RArg.drop (q:=q) (c2:=c - q) (m:=xs.length - q) h rfl
       have ea : (some (⟨g,off,none⟩ : Addr)).map (·.add (q * E.k)) = some ⟨g,off + q * E.k,none⟩:=by
         simp only [Option.map_some,Addr.add]
         split
         · rename_i h0;rw [h0];rfl
         · rfl
       rw [ea]
       exact this
 · by_cases hcq : c = q
   · omega
   · rw [if_neg hcq] at h
     have : p = none:=by cases p <;> simp_all
     have:=hpc this
     omega
def slE : Enc Sl:=⟨4,fun x => [.int .i64 x.num,.int .i64 x.kind,.int .i64 x.a,.int .i64 x.b],fun _ => rfl,fun x u hu => by
 simp only [List.mem_cons,List.not_mem_nil,or_false] at hu
 rcases hu with rfl | rfl | rfl | rfl <;> rfl⟩
theorem slot_at {w : World} {p : Option Addr} {n c : Nat} {l : List Sl} (h : RArg slE w (.slice p n c) l) (k : Nat) (hk : k < l.length) :
   ∃ g off,p = some ⟨g,off,none⟩ ∧ g < w.heap.size ∧ w.cell? ⟨g,off + k * 4,none⟩ = some (.int .i64 l[k].num) ∧ w.cell? ⟨g,off + k * 4 + 1,none⟩ = some (.int .i64 l[k].kind) ∧
     w.cell? ⟨g,off + k * 4 + 2,none⟩ = some (.int .i64 l[k].a) ∧ w.cell? ⟨g,off + k * 4 + 3,none⟩ = some (.int .i64 l[k].b):=by
 obtain ⟨p',c',e,h⟩:=h
 cases e
 obtain ⟨g,off,h1,h2,h3⟩:=h k hk
 exact ⟨g,off,h1,h2,h3 0 _ rfl,h3 1 _ rfl,h3 2 _ rfl,h3 3 _ rfl⟩
theorem tfits_in (x : Sl) (h0 : x.kind = 0 ∨ x.kind = 1) (h1 : 0 ≤ x.a) (h2 : x.a ≤ 2147483647) (h3 : 0 ≤ x.b) (h4 : x.b ≤ 65535) (w : World) :
   Calls Tryz.prog 189 #[.agg #[.int .i64 x.num,.int .i64 x.kind,.int .i64 x.a,.int .i64 x.b]] w fun e w' => e = .returned (.bool true) ∧ Below w.heap.size w w':=by
 obtain ⟨num,kind,a,b⟩:=x
 simp only at *
 have d0 : decide (kind = 2) = false:=decide_eq_false (by omega)
 have dk : ¬ kind = 2:=by omega
 have d1 : decide (0 ≤ a) = true:=decide_eq_true h1
 have d2 : decide (a ≤ 2147483647) = true:=decide_eq_true h2
 have d3 : decide (0 ≤ b) = true:=decide_eq_true h3
 have d4 : decide (b ≤ 65535) = true:=decide_eq_true h4
 clear h0 h1 h2 h3 h4
 go_enter Tryz.func189,Tryz.ntmps189
 go_wp2
 go_ret
 exact ⟨rfl,bel⟩
open Go.RowKit Fo Go.Maps
def slotR (v : Value) : Option (DataW Unit × List MemPlace):=match v with
 | .agg ⟨[.int .i64 a,.int .i64 b,.int .i64 c,.int .i64 d]⟩ => some (.agg [.lit (.int .i64 a),.lit (.int .i64 b),.lit (.int .i64 c),.lit (.int .i64 d)],[])
 | _ => none
def slV (x : Sl) : Value:=.agg #[.int .i64 x.num,.int .i64 x.kind,.int .i64 x.a,.int .i64 x.b]
def slD (x : Sl) : DataW Unit:=.agg [.lit (.int .i64 x.num),.lit (.int .i64 x.kind),.lit (.int .i64 x.a),.lit (.int .i64 x.b)]
theorem slotR_slV (x : Sl) : slotR (slV x) = some (slD x,[]):=rfl
theorem slotR_inv {v : Value} {z : DataW Unit × List MemPlace} (h : slotR v = some z) : ∃ x : Sl,v = slV x ∧ z = (slD x,[]):=by
 unfold slotR at h
 split at h
 · rename_i a b c d
   cases h
   exact ⟨⟨a,b,c,d⟩,rfl,rfl⟩
 · cases h
theorem slD_inj {x y : Sl} (h : slD x = slD y) : x = y:=by
 obtain ⟨_,_,_,_⟩:=x
 obtain ⟨_,_,_,_⟩:=y
 simp [slD] at h
 obtain ⟨rfl,rfl,rfl,rfl⟩:=h
 rfl
structure MapS (D : DataW Unit) (ps : List Sl) : Prop where
 tidy : Tidy D
 has : ∀ c : Int,Maps.has D (.int .i64 c) = (ps.find? (fun x => x.num == c)).isSome
 at' : ∀ (c : Int) (x : Sl),ps.find? (fun x => x.num == c) = some x → ∀ z,D.atKey (.int .i64 c) z = slD x
theorem MapS.nil : MapS (.map []) []:=⟨tidy_empty,fun c => rfl,fun c x h => by simp at h⟩
theorem isKey_num (c : Int) : WideAt.IsKeyLit (.int .i64 c):=trivial
theorem MapS.push {D : DataW Unit} {ps : List Sl} (h : MapS D ps) (x : Sl) (hx : ps.find? (fun y => y.num == x.num) = none) : MapS (D.put (.int .i64 x.num) (slD x)) (ps ++ [x]):=by
 refine ⟨h.tidy.put (isKey_num _) _,fun c => ?_,fun c y hy z => ?_⟩
 · rw [List.find?_append]
   by_cases hc : c = x.num
   · subst hc
     rw [has_put_same h.tidy.isMap (isKey_num _),hx];simp
   · rw [has_put_other (by simpa using hc),h.has c]
     have : ¬ x.num = c:=fun h => hc h.symm
     simp [this]
 · rw [List.find?_append] at hy
   by_cases hc : c = x.num
   · subst hc
     rw [hx] at hy
     simp at hy
     subst hy
     exact atKey_put_same h.tidy.isMap (isKey_num _) _ _
   · have : ¬ x.num = c:=fun h => hc h.symm
     rw [atKey_put_other (by simpa using hc)]
     refine h.at' c y ?_ z
     simpa [this] using hy
def MpS (w : World) (mb n : Nat) (ps : List Sl) : Prop:=∃ D : DataW Unit,w.ownsMap Tryz.prog 3 slotR mb n D ∧ MapS D ps
theorem MpS.lt {w : World} {mb n : Nat} {ps : List Sl} (h : MpS w mb n ps) : mb < w.heap.size:=by
 obtain ⟨D,⟨es,clock,hb,_⟩,_⟩:=h
 exact (Array.getElem?_eq_some_iff.1 hb).1
theorem MpS.kept {w w' : World} {mb n : Nat} {ps : List Sl} (h : MpS w mb n ps) (hk : w'.heap[mb]? = w.heap[mb]?) : MpS w' mb n ps:=by
 obtain ⟨D,⟨es,clock,hb,F⟩,h2⟩:=h
 exact ⟨D,⟨es,clock,hk.trans hb,F⟩,h2⟩
theorem MpS.below {w w' : World} {mb n : Nat} {ps : List Sl} (h : MpS w mb n ps) (hb : Below w.heap.size w w') : MpS w' mb n ps:=h.kept (hb.block mb h.lt)
theorem MpS.made (w : World) : MpS (w.alloc (.map #[] 0)) w.heap.size 0 []:=⟨_,World.ownsMap_made w _ _ _,MapS.nil⟩
theorem zeroSlot (w : World) : (zeroValue 48).run Tryz.prog w = .ok (slV ⟨0,0,0,0⟩) w:=by kernel_rfl
theorem MpS.look {w : World} {mb n : Nat} {ps : List Sl} (h : MpS w mb n ps) (c : Int) (h0 : 0 ≤ c) (h1 : c ≤ 1000000) :
   ∃ x : Sl,(Instr.lookup 101 (.map (some mb)) (.int .i64 c) true).run Tryz.prog w = .ok (.tuple #[slV x,.bool (ps.find? (fun y => y.num == c)).isSome]) w ∧
     ∀ y,ps.find? (fun y => y.num == c) = some y → x = y:=by
 obtain ⟨D,hown,hD⟩:=h
 have hwf : (Lit.int .i64 c).wf = true:=by simp [Lit.wf,IntKind.min,IntKind.max,IntKind.bits,IntKind.signed];omega
 have hkey:=keyOf_int_mk Tryz.underlying3 hwf
 obtain ⟨v0,ps0,hrun,hv0⟩:=hown.look_ok (int_keyed Tryz.underlying3) Tryz.underlying101 (zeroSlot w) (slotR_slV _) hkey
 obtain ⟨x,rfl,hz⟩:=slotR_inv hv0
 refine ⟨x,by rw [hrun,hD.has c],fun y hy => ?_⟩
 have e : D.atKey (.int .i64 c) (slD ⟨0,0,0,0⟩) = slD x:=congrArg Prod.fst hz
 rw [hD.at' c y hy] at e
 exact (slD_inj e).symm
theorem four_of {w : World} {b : Nat} {t : TypeId} {v0 v1 v2 v3 : Value} (h : w.heap[b]? = some (.cells #[v0, v1, v2, v3] t (0, 0))) :
   w.cell? ⟨b,0,none⟩ = some v0 ∧ w.cell? ⟨b,1,none⟩ = some v1 ∧ w.cell? ⟨b,2,none⟩ = some v2 ∧ w.cell? ⟨b,3,none⟩ = some v3:=by
 simp [World.cell?,h]
def SlotsOk (l : List Sl) : Prop:=l.length ≤ 8192 ∧ ∀ (k : Nat) (x : Sl),l[k]? = some x → SlotOk k x
theorem tcheck_in (v : Value) (l : List Sl) (w : World) (hv : RArg slE w v l) (hl : SlotsOk l) :
   Calls Tryz.prog 144 #[v] w fun e w' => e = .returned (.int .i64 0) ∧ Below w.heap.size w w':=by
 obtain ⟨p,cp,rfl,_⟩:=id hv
 obtain ⟨n,hn⟩ : ∃ n,l.length = n:=⟨_,rfl⟩
 have HV:=Lh hv
 have HN:=Lh hn
 have HL:=Lh hl.2
 have hn1 : n ≤ 8192:=by have:=hl.1;omega
 rw [hn] at HV
 rw [hn]
 clear hv hn hl
 go_enter Tryz.func144,Tryz.ntmps144
 go_wp2
 go_loopw [7] (fun i wr => ∃ k : Nat,k ≤ n ∧ i = .int .i64 k ∧ Below w.heap.size w wr) (fun i _ => n - (intOf i).toNat)
 case atStart => exact ⟨0,Nat.zero_le _,rfl,Below.refl _ _⟩
 case round =>
   obtain ⟨k,hk,rfl,hbr⟩:=hrel
   have hzr:=hbr.size
   by_cases hlk : k < n
   · have hvr : RArg slE wr (.slice p n cp) l:=HV.out.below hbr
     have hk' : k < l.length:=by rw [HN.out];exact hlk
     obtain ⟨b,off,rfl,hblt,a0,a1,a2,a3⟩:=slot_at hvr k hk'
     obtain ⟨hN,hK,hA0,hA1,hG0,hG1,_⟩:=HL.out k l[k] (List.getElem?_eq_getElem hk')
     have HFT:=Lh (fun W => tfits_in l[k] hK hA0 hA1 hG0 hG1 W)
     obtain ⟨N,hNe⟩ : ∃ N,l[k].num = N:=⟨_,rfl⟩
     obtain ⟨kd,hke⟩ : ∃ N,l[k].kind = N:=⟨_,rfl⟩
     obtain ⟨a,hae⟩ : ∃ N,l[k].a = N:=⟨_,rfl⟩
     obtain ⟨g,hge⟩ : ∃ N,l[k].b = N:=⟨_,rfl⟩
     rw [hNe] at a0 HFT hN
     rw [hke] at a1 HFT hK
     rw [hae] at a2 HFT
     rw [hge] at a3 HFT
     have hbne : ¬ b = wr.heap.size:=by omega
     have d0 : decide (N < 0) = false:=decide_eq_false (by omega)
     have d1 : decide (8191 < N) = false:=decide_eq_false (by omega)
     have d2 : decide (kd < 0) = false:=decide_eq_false (by omega)
     have d3 : decide (2 < kd) = false:=decide_eq_false (by omega)
     cases k with
     | zero =>
       clear hvr hN hK hA0 hA1 hG0 hG1 hNe hke hae hge
       simp only [Nat.zero_mul,Nat.add_zero] at a0 a1 a2 a3
       go_wp2_with fail
       refine (HFT.out _).mono ?_
       rintro e w1 ⟨rfl,hb1⟩
       have hz1:=hb1.size
       simp at hz1
       have X1:=(hb1.block _ (by simp)).trans (heap_new_at wr (.cells #[.int .i64 N,.int .i64 kd,.int .i64 a,.int .i64 g] 48) _ rfl)
       obtain ⟨z0,z1,z2,z3⟩:=four_of X1
       have hbw1 : Below w.heap.size w w1:=hbr.trans (((Below.refl _ wr).alloc (Nat.le_refl _) (.cells #[.int .i64 N,.int .i64 kd,.int .i64 a,.int .i64 g] 48)).trans (hb1.mono (by simp)) |>.mono hbr.size)
       have hbz1 : Below wr.heap.size wr w1:=((Below.refl _ wr).alloc (Nat.le_refl _) (.cells #[.int .i64 N,.int .i64 kd,.int .i64 a,.int .i64 g] 48)).trans (hb1.mono (by simp))
       clear X1 hb1
       go_wp2
       go_region
       go_wp2
       go_region
       go_wp2
       go_roundw
       case rel => exact ⟨1,by omega,by go_num,hbw1.drew.drew⟩
       case measure => simp [intOf];omega
     | succ j =>
       have hj' : j < l.length:=by omega
       obtain ⟨b',off',e',_,q0,_⟩:=slot_at hvr j hj'
       cases e'
       have hM:=(HL.out j l[j] (List.getElem?_eq_getElem hj')).num
       obtain ⟨M,hMe⟩ : ∃ N,l[j].num = N:=⟨_,rfl⟩
       rw [hMe] at q0 hM
       have wj : IntKind.i64.wrap (j : Int) = j:=IntWalk.i64_in _ (by omega)
       have gj : decide (0 < (j : Int) + 1) = true:=by rw [decide_eq_true_eq];omega
       have d4 : decide (N = M) = false:=decide_eq_false (by omega)
       have d5 : decide (N < M) = false:=decide_eq_false (by omega)
       have d6 : ¬ N = M:=by omega
       clear hvr hN hM hK hA0 hA1 hG0 hG1 hNe hke hae hge hMe
       go_wp2_with fail
       refine (HFT.out _).mono ?_
       rintro e w1 ⟨rfl,hb1⟩
       have hz1:=hb1.size
       simp at hz1
       have X1:=(hb1.block _ (by simp)).trans (heap_new_at wr (.cells #[.int .i64 N,.int .i64 kd,.int .i64 a,.int .i64 g] 48) _ rfl)
       obtain ⟨z0,z1,z2,z3⟩:=four_of X1
       have hbw1 : Below w.heap.size w w1:=hbr.trans (((Below.refl _ wr).alloc (Nat.le_refl _) (.cells #[.int .i64 N,.int .i64 kd,.int .i64 a,.int .i64 g] 48)).trans (hb1.mono (by simp)) |>.mono hbr.size)
       have hbz1 : Below wr.heap.size wr w1:=((Below.refl _ wr).alloc (Nat.le_refl _) (.cells #[.int .i64 N,.int .i64 kd,.int .i64 a,.int .i64 g] 48)).trans (hb1.mono (by simp))
       clear X1 hb1
       have pj : w1.cell? ⟨b,off + j * 4,none⟩ = some (.int .i64 M):=(World.cell?_of_block (a:=⟨b,off + j * 4,none⟩) (hbz1.block b hblt)).trans q0
       go_wp2
       go_region
       go_wp2
       go_region
       go_wp2
       go_roundw
       case rel => exact ⟨j + 2,by omega,by go_num,hbw1.drew.drew⟩
       case measure => simp [intOf];omega
   · go_wp2
     go_ret
     exact ⟨rfl,hbr⟩
def prE : Enc (Int × Int):=⟨2,fun x => [.int .i64 x.1,.int .i64 x.2],fun _ => rfl,fun x u hu => by
 simp only [List.mem_cons,List.not_mem_nil,or_false] at hu
 rcases hu with rfl | rfl <;> rfl⟩
theorem set_any {w : World} {b o : Nat} {t : TypeId} {cur : Array Value} {v : Value} (h : w.heap[b]? = some (.cells cur t (0, 0))) :
   (w.setCell ⟨b,o,none⟩ v).heap[b]? = some (.cells (cur.setIfInBounds o v) t (0,0)):=by
 have hlt:=lt_of_block h
 have h' : w.heap[b] = .cells cur t (0,0):=by simpa [Array.getElem?_eq_getElem hlt] using h
 simp only [World.setCell,Array.getElem?_modify]
 simp [h',Array.getElem?_eq_getElem hlt]
def RunAt (w : World) (B : Nat) (v : Value) (k : Nat) : Prop:=(k = 0 ∧ v = .slice none 0 0) ∨
 (0 < k ∧ ∃ g c cur,v = .slice (some ⟨g,0,none⟩) 1 c ∧ B ≤ g ∧ w.heap[g]? = some (.cells cur 119 (0,0)) ∧ cur[0]? = some (.int .i64 0) ∧ cur[1]? = some (.int .i64 k))
theorem run_first {w : World} {B q : Nat} {p : Option Addr} {N : Int} (hN : N = 0) (h : rownS prE 119 w B (.slice p 1 q) [(N,1)]) : RunAt w B (.slice p 1 q) 1:=by
 subst hN
 refine .inr ⟨by decide,?_⟩
 obtain ⟨_,⟨h1,_⟩ | ⟨g,cap,cur,h1,h2,h3,h4,h5,h6,h7⟩⟩:=h
 · cases h1
 · cases h1
   have h0 : cur.toList.take 2 = [.int .i64 0,.int .i64 1]:=h7
   refine ⟨g,q,cur,rfl,h2,h3,?_,?_⟩
   · rw [← Array.getElem?_toList]
     have:=congrArg (·[0]?) h0
     simpa [List.getElem?_take] using this
   · rw [← Array.getElem?_toList]
     have:=congrArg (·[1]?) h0
     simpa [List.getElem?_take] using this
theorem truns_in (v : Value) (l : List Sl) (w : World) (hv : RArg slE w v l) (hl : SlotsOk l) :
   Calls Tryz.prog 90 #[v] w fun e w' => ∃ r,e = .returned r ∧ RunAt w' w.heap.size r l.length ∧ Below w.heap.size w w':=by
 obtain ⟨p,cp,rfl,_⟩:=id hv
 obtain ⟨n,hn⟩ : ∃ n,l.length = n:=⟨_,rfl⟩
 have HV:=Lh hv
 have HN:=Lh hn
 have HL:=Lh hl.2
 have hn1 : n ≤ 8192:=by have:=hl.1;omega
 rw [hn] at HV
 rw [hn]
 clear hv hn hl
 go_enter Tryz.func90,Tryz.ntmps90
 go_wp2
 go_loopw [3,8] (fun r i wr => ∃ k : Nat,k ≤ n ∧ i = .int .i64 k ∧ Hid (RunAt wr w.heap.size r k) ∧ Below w.heap.size w wr) (fun _ i _ => n - (intOf i).toNat)
 case atStart => exact ⟨0,Nat.zero_le _,rfl,Lh (.inl ⟨rfl,rfl⟩),Below.refl _ _⟩
 case round =>
   obtain ⟨k,hk,rfl,HR,hbr⟩:=hrel
   have hzr:=hbr.size
   by_cases hlk : k < n
   · have hvr : RArg slE wr (.slice p n cp) l:=HV.out.below hbr
     have hk' : k < l.length:=by rw [HN.out];exact hlk
     obtain ⟨b,off,rfl,hblt,a0,a1,a2,a3⟩:=slot_at hvr k hk'
     obtain ⟨hN,_,_,_,_,_,_⟩:=HL.out k l[k] (List.getElem?_eq_getElem hk')
     obtain ⟨N,hNe⟩ : ∃ N,l[k].num = N:=⟨_,rfl⟩
     obtain ⟨kd,hke⟩ : ∃ N,l[k].kind = N:=⟨_,rfl⟩
     obtain ⟨a,hae⟩ : ∃ N,l[k].a = N:=⟨_,rfl⟩
     obtain ⟨g,hge⟩ : ∃ N,l[k].b = N:=⟨_,rfl⟩
     rw [hNe] at a0 hN
     rw [hke] at a1
     rw [hae] at a2
     rw [hge] at a3
     have hbne : ¬ b = wr.heap.size:=by omega
     cases k with
     | zero =>
       obtain ⟨_,rfl⟩ | ⟨h0,_⟩:=HR.out
       rotate_left
       · omega
       simp only [Nat.zero_mul,Nat.add_zero] at a0 a1 a2 a3
       have HNN:=Lh hN
       clear hvr hN hNe hke hae hge HR
       go_wp2
       go_region
       go_wp2
       go_roundw
       case rel => exact ⟨1,by omega,by go_num,Lh (.inr ⟨by decide,wr.heap.size + 1 + 1,_,_,rfl,by omega,heap_new_at _ _ _ (by simp),by rw [Array.getElem?_append_left (by simp)];simp [HNN.out],by rw [Array.getElem?_append_left (by simp)];simp⟩),bel⟩
       case measure => simp [intOf];omega
     | succ j =>
       obtain ⟨h0,_⟩ | ⟨_,g2,c2,cur,rfl,hgB,hgh,e0,e1⟩:=HR.out
       · omega
       have hj' : j < l.length:=by omega
       have hjn : j < n:=by omega
       have hj1 : j + 1 < n:=by omega
       obtain ⟨b',off',e',_,q0,_⟩:=slot_at hvr j hj'
       cases e'
       have hM:=(HL.out j l[j] (List.getElem?_eq_getElem hj')).num
       obtain ⟨M,hMe⟩ : ∃ N,l[j].num = N:=⟨_,rfl⟩
       rw [hMe] at q0 hM
       have d4 : decide (M < N) = true:=decide_eq_true (by omega)
       have wM : IntKind.i64.wrap (N - 1) = M:=by rw [IntWalk.i64_in _ (by omega)];omega
       have wj : IntKind.i64.wrap (j : Int) = j:=IntWalk.i64_in _ (by omega)
       have wj2 : IntKind.i64.wrap ((j : Int) + 1 + 1) = (j : Int) + 1 + 1:=IntWalk.i64_in _ (by omega)
       have gj : decide (0 < (j : Int) + 1) = true:=by rw [decide_eq_true_eq];omega
       have hglt : g2 < wr.heap.size:=lt_of_block hgh
       have hgne : ¬ g2 = wr.heap.size:=by omega
       have c1 : wr.cell? ⟨g2,1,none⟩ = some (.int .i64 ((j : Int) + 1)):=by simp [World.cell?,hgh,e1]
       have c1f : wr.frozen? ⟨g2,1,none⟩ = false:=by simp [World.frozen?,hgh]
       have HG:=Lh (And.intro hgh (And.intro e0 e1))
       clear hvr hN hM hNe hke hae hge hMe HR hgh e0 e1
       go_wp2
       go_region
       go_wp2
       go_region
       go_wp2
       go_roundw
       case rel =>
         refine ⟨j + 2,by omega,by go_num,Lh (.inr ⟨by omega,g2,c2,cur.setIfInBounds 1 (.int .i64 ((j : Int) + 1 + 1)),rfl,hgB,?_,?_,?_⟩),bel⟩
         · exact (Below.heap_alloc _ _ _ (by simpa [World.setCell] using hglt)).trans (set_any HG.out.1)
         · rw [Array.getElem?_setIfInBounds_ne (by decide)];exact HG.out.2.1
         · rw [Array.getElem?_setIfInBounds_self_of_lt (Array.getElem?_eq_some_iff.1 HG.out.2.2).1];rfl
       case measure => simp [intOf];omega
   · obtain rfl : k = n:=by omega
     go_wp2
     go_ret
     exact ⟨_,rfl,HR.out,hbr⟩
def bldF (w : World) (B : Nat) (l : L) : Prop:=Lib.IsBuilderF 100 5 B B (Lib.byteCells l) w
theorem bldF_of {w : World} {B : Nat} {l : L} (h : bldB w B l) : bldF w B l:=h.elim (fun h => .inl (Lib.BuilderAtF.of h)) (fun h => .inr (Lib.BuilderAtF.of h))
theorem bldF_fresh (w : World) : bldF (w.alloc (.cells #[.pointer none,.slice none 0 0] 100)) w.heap.size []:=bldF_of (bldB_fresh w)
theorem bldF_below {w w' : World} {B : Nat} {l : L} (h : bldF w B l) (hb : Below w.heap.size w w') : bldF w' B l:=by
 have key : ∀ p,Lib.BuilderAtF 100 5 B B p (Lib.byteCells l) w → Lib.BuilderAtF 100 5 B B p (Lib.byteCells l) w':=by
   rintro p h
   have hlt:=h.lt
   obtain ⟨hB,v,hv,hown,hne⟩:=h
   exact ⟨hB,v,(hb.block _ hlt).trans hv,hown.kept (row:=none) ⟨hb.os,hb.tape,hb.output,hb.size,fun k hk _ => hb.block k hk⟩ (Classical.em _),hne⟩
 rcases h with h | h
 · exact .inl (key _ h)
 · exact .inr (key _ h)
theorem bldF_lt {w : World} {B : Nat} {l : L} (h : bldF w B l) : B < w.heap.size:=h.elim (fun h => h.lt) (fun h => h.lt)
theorem blf_str (B : Nat) (l : L) (s : ByteArray) (w : World) (h : bldF w B l) (hl : l.length + s.size ≤ 140737488355328) (hB : B ≤ w.heap.size) :
   Calls Tryz.prog 52 #[.pointer (some ⟨B,0,none⟩),.string s] w fun e w' => e = .returned (.tuple #[.int .i64 s.size,.nilIface]) ∧ bldF w' B (l ++ s.data.toList) ∧ Below B w w' ∧ Lib.OthersKept 5 (some B) w w':=by
 refine (Any.Builder_WriteString_k Tryz.lays166 Tryz.Builder_Extra_166 B B _ s w h (by rw [Lib.byteCells_length];exact hl) hB).mono fun e w' ⟨h1,h2,h3,h4⟩ => ⟨h1,.inr ?_,h3,h4⟩
 have h2' : Lib.BuilderAtF 100 5 B B (.pointer (some ⟨B,0,none⟩)) (Lib.byteCells l ++ Lib.strCells s) w':=h2
 simpa [Lib.byteCells,Lib.strCells] using h2'
theorem blf_get (B : Nat) (l : L) (w : World) (h : bldF w B l) (hB : B ≤ w.heap.size) :
   Calls Tryz.prog 54 #[.pointer (some ⟨B,0,none⟩)] w fun e w' => e = .returned (.string ⟨l.toArray⟩) ∧ Below B w w' :=
 (Tryz.Builder_String_any_k B B l w h hB).mono fun _ _ ⟨h1,_,h3,_⟩ => ⟨h1,h3⟩
open Go.RowKit Go.Shelf Fo
theorem fcheck_fresh (fb : Nat) (v m : Value) (w : World) (h : w.heap[fb]? = some (.cells #[.pointer none, v, m] 103 (0, 0))) :
   Calls Tryz.prog 93 #[.pointer (some ⟨fb,0,none⟩)] w fun e w' => e = .returned (.tuple #[]) ∧ w' = w.setCell ⟨fb,0,none⟩ (.pointer (some ⟨fb,0,none⟩)):=by
 have c0 : w.cell? ⟨fb,0,none⟩ = some (.pointer none):=by simp [World.cell?,h]
 have f0 : w.frozen? ⟨fb,0,none⟩ = false:=by simp [World.frozen?,h]
 have hs : w.shape? fb = some (103,3):=by simp [World.shape?,h]
 go_enter Tryz.func93,Tryz.ntmps93
 have L : Lays.n240 Tryz.prog Tryz.lays166_ren:={ Tryz.lays166 with }
 obtain ⟨j,hj,hjs⟩:=Option.map_eq_some_iff.1 Tryz.Builder_Extra_166.toX72.sizeBuilder
 have q97 : Tryz.prog.underlying 97 = some (.pointer 100):=Tryz.underlying97
 have q173 : Tryz.prog.underlying 173 = some .unsafePointer:=Tryz.underlying173
 have hj' : Tryz.prog.info? 100 = some j:=hj
 have e150:=Tryz.func150
 have hlies : liesAt Tryz.prog Tryz.prog.depth 103 (3 / Tryz.prog.cellsOf 103) 0 100 1 = true:=by kernel_rfl
 go_wp2
 rw [Lib.run_to_unsafe w ⟨fb,0,none⟩ q97 q173 hj' (by rw [hjs];decide) hs (Nat.zero_lt_succ 2)]
 simp only [Result.andThen]
 rw [Oper.upon_value]
 go_wp2
 rw [run_callFunc_extern e150 (by kernel_rfl) (by kernel_rfl) (by kernel_rfl) (e:=Extern.AbiNoEscape.same) (by kernel_rfl)]
 rw [Lib.run_noEscape]
 simp only [Result.andThen]
 rw [Oper.upon_value]
 go_wp2
 rw [Lib.run_from_unsafe w ⟨fb,0,none⟩ q173 q97 hj' hs hlies]
 simp only [Result.andThen]
 rw [Oper.upon_value]
 go_wp2
 go_end0
 exact ⟨rfl,rfl⟩
def fileB (w : World) (B fb mb : Nat) (l : L) : Prop:=B ≤ fb ∧ ∃ p v,(p = .pointer none ∨ p = .pointer (some ⟨fb,0,none⟩)) ∧ w.heap[fb]? = some (.cells #[p,v,.map (some mb)] 103 (0,0)) ∧
 w.ownsRowF B 5 1 v l.length (Lib.byteCells l) ∧ v.ownBlock ≠ some fb
theorem fileB_lt {w : World} {B fb mb : Nat} {l : L} (h : fileB w B fb mb l) : fb < w.heap.size:=by
 obtain ⟨_,p,v,_,h,_⟩:=h
 exact lt_of_block h
theorem fileB_below {w w' : World} {B fb mb : Nat} {l : L} (h : fileB w B fb mb l) (hb : Below w.heap.size w w') : fileB w' B fb mb l:=by
 have hlt:=fileB_lt h
 obtain ⟨h0,p,v,h1,h2,h3,h4⟩:=h
 exact ⟨h0,p,v,h1,(hb.block fb hlt).trans h2,h3.kept (row:=none) ⟨hb.os,hb.tape,hb.output,hb.size,fun k hk _ => hb.block k hk⟩ (Classical.em _),h4⟩
theorem fcheck_in (fb mb : Nat) (p v : Value) (w : World) (hp : p = .pointer none ∨ p = .pointer (some ⟨fb, 0, none⟩)) (h : w.heap[fb]? = some (.cells #[p, v, .map (some mb)] 103 (0, 0))) :
   Calls Tryz.prog 93 #[.pointer (some ⟨fb,0,none⟩)] w fun e w' => e = .returned (.tuple #[]) ∧ (w' = w ∨ w' = w.setCell ⟨fb,0,none⟩ (.pointer (some ⟨fb,0,none⟩))) ∧
     w'.heap[fb]? = some (.cells #[.pointer (some ⟨fb,0,none⟩),v,.map (some mb)] 103 (0,0)):=by
 rcases hp with rfl | rfl
 · refine (fcheck_fresh fb v _ w h).mono ?_
   rintro e w' ⟨rfl,rfl⟩
   exact ⟨rfl,.inr rfl,by rw [set_any h];rfl⟩
 · refine (Any.Builder_copyCheck_used (P:=Tryz.prog) (ρ:=Tryz.lays166_ren) { Tryz.lays166 with } Tryz.Builder_Extra_166.toX72 fb w (by simp [World.cell?,h])).mono ?_
   rintro e w' ⟨rfl,rfl⟩
   exact ⟨rfl,.inl rfl,h⟩
theorem fstr_in (B fb mb : Nat) (l : L) (s : ByteArray) (w : World) (h : fileB w B fb mb l) (hlen : l.length + s.size ≤ 140737488355328) (hBw : B ≤ w.heap.size) :
   Calls Tryz.prog 52 #[.pointer (some ⟨fb,0,none⟩),.string s] w fun e w' => e = .returned (.tuple #[.int .i64 s.size,.nilIface]) ∧ fileB w' B fb mb (l ++ s.data.toList) ∧ Below B w w' ∧ Lib.OthersKept 5 (some fb) w w':=by
 obtain ⟨i0,hi,hz0,hz1,hz2⟩:=info_parts Tryz.Builder_Extra_166.infoByte
 have hi' : Tryz.prog.info? 5 = some i0:=hi
 obtain ⟨hB,p,v,hp,hbk,hown,hne⟩:=h
 have HCK:=Lh (fcheck_in fb mb p v w hp hbk)
 have hbl : (Lib.byteCells l).length = l.length:=Lib.byteCells_length l
 go_enter Tryz.func52,Tryz.ntmps52
 go_wp2_with fail
 refine HCK.out.mono ?_
 rintro e w1 ⟨rfl,hw1,hbk1⟩
 have hb1 : Below B w w1:=by
   rcases hw1 with rfl | rfl
   · exact Below.refl _ _
   · exact (Below.refl B w).setCell (p:=⟨fb,0,none⟩) hB _
 have hk1 : Lib.OthersKept 5 (some fb) w w1:=by
   rcases hw1 with rfl | rfl
   · exact Lib.OthersKept.refl _ _ _
   · exact (Lib.OthersKept.refl _ _ w).setCell ⟨fb,0,none⟩ rfl _
 have hown1 : w1.ownsRowF B 5 1 v l.length (Lib.byteCells l):=by
   rcases hw1 with rfl | rfl
   · exact hown
   · exact hown.kept (row:=some fb) ⟨rfl,rfl,rfl,by simp [World.setCell],fun k _ hk => Below.heap_setCell _ _ _ _ (fun e => hk (by simp [e]))⟩ (Or.inr hne)
 have c1 : w1.cell? ⟨fb,1,none⟩ = some v:=by simp [World.cell?,hbk1]
 have c0 : w1.cell? ⟨fb,0,none⟩ = some (.pointer (some ⟨fb,0,none⟩)):=by simp [World.cell?,hbk1]
 clear HCK hw1
 go_wp2_with (at_builtin;refine Lib.wpList_append_own_stringF _ rfl _ _ 98 9 rfl B 5 i0 Tryz.underlying98 Tryz.underlying9 hi' hz0 hz1 hz2 _ _ _ rfl hown1 s rfl ?c3 ?c4 ?c5 ?_)
 case c3 => unfold maxLen;omega
 case c4 => omega
 case c5 => have:=hb1.size;omega
 intro v' w2 hown' hgrow _
 have hlt : fb < w1.heap.size:=lt_of_block hbk1
 have hb2 : w2.heap[fb]? = some (.cells #[.pointer (some ⟨fb,0,none⟩),v,.map (some mb)] 103 (0,0)):=by
   rw [hgrow.block fb hlt (fun e => hne e.symm)]
   exact hbk1
 have d1 : w2.cell? ⟨fb,1,none⟩ = some v:=by simp [World.cell?,hb2]
 have f1 : w2.frozen? ⟨fb,1,none⟩ = false:=by simp [World.frozen?,hb2]
 obtain ⟨ao,n',cap,rfl⟩ : ∃ ao n' cap,v' = .slice ao n' cap:=by
   rcases hown'.2 with ⟨hv,_⟩ | ⟨g,cap,cur,fz,hv,_⟩
   · exact ⟨_,_,_,hv⟩
   · exact ⟨_,_,_,hv⟩
 go_wp2
 go_ret2
 have hne':=Lib.ownBlock_neF hown' hb2 (by decide)
 have e1 : (l ++ s.data.toList).length = l.length + s.size:=by rw [List.length_append];simp
 have e2 : Lib.byteCells (l ++ s.data.toList) = Lib.byteCells l ++ Lib.strCells s:=by simp [Lib.byteCells,Lib.strCells]
 refine ⟨rfl,⟨hB,_,_,.inr rfl,by rw [set_any hb2];rfl,?_,hne'⟩,?_,(hk1.grown hgrow (Lib.ownsRowF_kind hown1)).setCell ⟨fb,1,none⟩ rfl _⟩
 · rw [e1,e2]
   exact hown'.kept (row:=some fb) ⟨rfl,rfl,rfl,by simp [World.setCell],fun k _ hk => Below.heap_setCell _ _ _ _ (fun e => hk (by simp [e]))⟩ (Or.inr hne')
 · exact (hb1.grown hgrow (by have:=hb1.size;omega) (fun k hk => (hown1.lt k hk).1)).setCell (p:=⟨fb,1,none⟩) hB _
theorem flen_in (B fb mb : Nat) (l : L) (w : World) (h : fileB w B fb mb l) (hl : l.length ≤ 140737488355328) :
   Calls Tryz.prog 50 #[.pointer (some ⟨fb,0,none⟩)] w fun e w' => e = .returned (.int .i64 l.length) ∧ w' = w:=by
 obtain ⟨hB,p,v,hp,hbk,hown,hne⟩:=h
 obtain ⟨ao,cap,rfl⟩ : ∃ ao cap,v = .slice ao l.length cap:=by
   rcases hown.2 with ⟨hv,h0⟩ | ⟨g,cap,cur,fz,hv,_⟩
   · exact ⟨none,0,by rw [hv,h0]⟩
   · exact ⟨_,_,hv⟩
 have c1 : w.cell? ⟨fb,1,none⟩ = some (.slice ao l.length cap):=by simp [World.cell?,hbk]
 go_enter Tryz.func50,Tryz.ntmps50
 go_wp2
 go_ret
 exact ⟨rfl,rfl⟩
theorem fget_in (B fb mb : Nat) (l : L) (h0 : l ≠ []) (w : World) (h : fileB w B fb mb l) :
   Calls Tryz.prog 54 #[.pointer (some ⟨fb,0,none⟩)] w fun e w' => e = .returned (.string ⟨l.toArray⟩) ∧ Below B w w' ∧ Lib.OthersKept 5 (some fb) w w':=by
 obtain ⟨hB,p,v,hp,hbk,hown,hne⟩:=h
 have hl0 : l.length ≠ 0:=by simpa using h0
 obtain ⟨g,cap,cur,fz,rfl,hbg,hg,hfz,hnc,hcm,hcs,htake⟩ : ∃ g cap cur fz,v = .slice (some ⟨g,0,none⟩) l.length cap ∧ B ≤ g ∧ w.heap[g]? = some (.cells cur 5 fz) ∧ fz.2 ≤ l.length * 1 ∧ l.length ≤ cap ∧ cap ≤ maxLen ∧ cur.size = cap * 1 ∧ cur.toList.take (l.length * 1) = Lib.byteCells l:=by
   rcases hown.2 with ⟨_,hz⟩ | ⟨g,cap,cur,fz,hv,r⟩
   · exact absurd hz hl0
   · exact ⟨g,cap,cur,fz,hv,r⟩
 have c1 : w.drew.cell? ⟨fb,1,none⟩ = some (.slice (some ⟨g,0,none⟩) l.length cap):=by
   have : w.drew.heap[fb]? = some (.cells #[p,.slice (some ⟨g,0,none⟩) l.length cap,.map (some mb)] 103 (0,0)):=hbk
   rw [Lib.cell_of_heap this];rfl
 have hSD : (Builtin.unsafeSliceData_ #[98] 134 #[.slice (some ⟨g,0,none⟩) l.length cap]).run Tryz.prog w.drew = .ok (.pointer (some ⟨g,0,none⟩)) w.drew :=
   Lib.run_unsafeSliceData_row _ _ _ _ _ _ (by omega)
 have hUS : (Builtin.unsafeString_ #[134,3] 9 #[.pointer (some ⟨g,0,none⟩),.int .i64 l.length]).run Tryz.prog w.drew = .ok (.string ⟨l.toArray⟩) (w.drew.freeze ⟨g,0,none⟩ l.length):=by
   refine Lib.run_unsafeString_row w.drew 134 3 9 5 Tryz.underlying134 Tryz.Builder_Extra_166.cellsByte g cur.size (by have hg' : w.drew.heap[g]? = some (.cells cur 5 fz):=hg;simp [World.shape?,hg']) l h0 (by omega) (by unfold maxLen at hcm;omega) ?_
   intro j x hx
   have:=hown.cells (g:=g) rfl j (.int .u8 x.toNat) (by simp [Lib.byteCells,hx])
   exact this
 have mixed:=Tryz.lays169.mixed
 go_enter Tryz.func54,Tryz.ntmps54
 go_wp2
 go_region_o
 all_goals (go_wp2;go_ret;exact ⟨rfl,Lib.below_freeze (Below.drew (Below.refl B w)) (p:=⟨g,0,none⟩) hbg _,((Lib.OthersKept.refl _ _ w).drew).freeze _ _ ⟨_,_,hg⟩⟩)
open Go.RowKit Fo Go.Maps
theorem Tryz.infoSl : (Tryz.prog.info? 48).map (fun i => (i.zero,i.size,i.bytes)) = some (some (slV ⟨0,0,0,0⟩),4,32):=by kernel_rfl
def slotV (ps : List Sl) (most n : Nat) : Sl :=
 match ps.find? (fun x => x.num == (n : Int)) with
 | some x => x
 | none => ⟨n,0,freeA ps most n,0⟩
def Laid (w : World) (g : Nat) (ps : List Sl) (most n : Nat) : Prop:=∃ cur,w.heap[g]? = some (.cells cur 48 (0,0)) ∧ cur.size = (most + 1) * 4 ∧
 ∀ j,n ≤ j → j ≤ most → ∀ i u,(slE.cells (slotV ps most j))[i]? = some u → cur[j * 4 + i]? = some u
theorem laid_put {w : World} {g most j : Nat} {ps : List Sl} {cur : Array Value} (h1 : w.heap[g]? = some (.cells cur 48 (0, 0))) (h2 : cur.size = (most + 1) * 4)
   (h3 : ∀ k,j + 1 ≤ k → k ≤ most → ∀ i u,(slE.cells (slotV ps most k))[i]? = some u → cur[k * 4 + i]? = some u) (hj : j ≤ most) {a b c d : Int} (hx : slotV ps most j = ⟨a,b,c,d⟩) :
   Laid ((((w.setCell ⟨g,j * 4,none⟩ (.int .i64 a)).setCell ⟨g,j * 4 + 1,none⟩ (.int .i64 b)).setCell ⟨g,j * 4 + 2,none⟩ (.int .i64 c)).setCell ⟨g,j * 4 + 3,none⟩ (.int .i64 d)) g ps most j:=by
 refine ⟨_,set_any (set_any (set_any (set_any h1))),by simp [h2],fun k hk hkm i u hu => ?_⟩
 by_cases e : k = j
 · subst e
   rw [hx] at hu
   have hi : i < 4:=(List.getElem?_eq_some_iff.1 hu).1
   have h4 : i = 0 ∨ i = 1 ∨ i = 2 ∨ i = 3:=by omega
   rcases h4 with rfl | rfl | rfl | rfl <;> simp [slE] at hu <;> subst hu <;> simp [Array.getElem?_setIfInBounds,h2] <;> omega
 · have:=h3 k (by omega) hkm i u hu
   have hi : i < 4:=by
     have:=(List.getElem?_eq_some_iff.1 hu).1
     simpa [slE] using this
   rw [Array.getElem?_setIfInBounds_ne (by omega),Array.getElem?_setIfInBounds_ne (by omega),Array.getElem?_setIfInBounds_ne (by omega),Array.getElem?_setIfInBounds_ne (by omega)]
   exact this
theorem row_done {w : World} {g most B : Nat} {ps : List Sl} {cur : Array Value} (h1 : w.heap[g]? = some (.cells cur 48 (0, 0))) (h2 : cur.size = (most + 1) * 4)
   (h3 : ∀ k,0 ≤ k → k ≤ most → ∀ i u,(slE.cells (slotV ps most k))[i]? = some u → cur[k * 4 + i]? = some u) (hp0 : ps.find? (fun x => x.num == 0) = none) (hm : most ≤ 8191) (hB : B ≤ g) :
   rownS slE 48 (w.setCell ⟨g,3,none⟩ (.int .i64 65535)) B (.slice (some ⟨g,0,none⟩) (most + 1) (most + 1)) (slotsW ps most):=by
 unfold rownS
 refine ⟨Enc.row_length _ _,.inr ⟨g,most + 1,_,by rw [slotsW_len],hB,set_any h1,by rw [slotsW_len];exact Nat.le_refl _,by unfold maxLen;omega,by simp only [Array.size_setIfInBounds,h2];rfl,?_⟩⟩
 rw [slotsW_len]
 refine List.ext_getElem? fun i => ?_
 by_cases hi : i < (most + 1) * 4
 · rw [List.getElem?_take_of_lt (show i < (most + 1) * slE.k from hi),Array.getElem?_toList]
   have hq : i / 4 ≤ most:=by omega
   have hr : (slE.row (slotsW ps most))[i]? = (slE.cells (slotW ps most (i / 4)))[i % 4]?:=by
     have:=slE.row_at (slotsW ps most) (i / 4) (by rw [slotsW_len];omega) (i % 4) (Nat.mod_lt _ (by decide))
     rw [slotsW_at] at this
     rw [← this]
     congr 1
     show i = i / 4 * 4 + i % 4
     omega
   rw [hr]
   by_cases h3' : i = 3
   · subst h3'
     rw [Array.getElem?_setIfInBounds_self_of_lt (by omega)]
     have e : slotW ps most 0 = ⟨0,0,freeA ps most 0,65535⟩:=by
       unfold slotW
       rw [show ps.find? (fun x => x.num == ((0 : Nat) : Int)) = none from hp0];rfl
     show _ = (slE.cells (slotW ps most 0))[3]?
     rw [e];rfl
   · rw [Array.getElem?_setIfInBounds_ne (by omega)]
     have hlt : i % 4 < (slE.cells (slotV ps most (i / 4))).length:=Nat.mod_lt _ (by decide)
     have:=h3 (i / 4) (Nat.zero_le _) hq (i % 4) _ (List.getElem?_eq_getElem hlt)
     rw [show i / 4 * 4 + i % 4 = i by omega] at this
     rw [this,← List.getElem?_eq_getElem hlt]
     unfold slotV slotW
     cases ps.find? (fun x => x.num == ((i / 4 : Nat) : Int)) with
     | some x => rfl
     | none =>
       by_cases h0 : i / 4 = 0
       · have h4 : i % 4 = 0 ∨ i % 4 = 1 ∨ i % 4 = 2:=by omega
         rcases h4 with h4 | h4 | h4 <;> rw [h4] <;> rfl
       · simp only [if_neg h0]
 · rw [List.getElem?_eq_none (by rw [List.length_take];show min ((most + 1) * 4) _ ≤ i;omega),List.getElem?_eq_none (by rw [Enc.row_length,slotsW_len];show (most + 1) * 4 ≤ i;omega)]
theorem Laid.alloc {w : World} {g most j : Nat} {ps : List Sl} (h : Laid w g ps most j) (o : Obj) : Laid (w.alloc o) g ps most j:=by
 obtain ⟨cur,h1,h2⟩:=h
 exact ⟨cur,(Below.heap_alloc _ _ _ (lt_of_block h1)).trans h1,h2⟩
theorem slots_in (fb mb nn most : Nat) (ps : List Sl) (w : World) (hm : most ≤ 8191) (hf : w.cell? ⟨fb, 2, none⟩ = some (.map (some mb))) (hfb : fb < w.heap.size) (hMp : MpS w mb nn ps) (hp0 : ps.find? (fun x => x.num == 0) = none) :
   Calls Tryz.prog 47 #[.pointer (some ⟨fb,0,none⟩),.int .i64 most] w fun e w' =>
     ∃ p c,e = .returned (.slice p (most + 1) c) ∧ most + 1 ≤ c ∧ rownS slE 48 w' w.heap.size (.slice p (most + 1) c) (slotsW ps most) ∧ Below w.heap.size w w':=by
 have HM:=Lh hMp
 have g1 : IntKind.i64.wrap ((most : Int) + 1) = (most : Int) + 1:=IntWalk.i64_in _ (by omega)
 have g2 : (0 : Int) ≤ (most : Int) + 1:=by omega
 clear hMp
 go_enter Tryz.func47,Tryz.ntmps47
 obtain ⟨i0,hi0,y0,y1,y2⟩:=info_parts Tryz.infoSl
 have hb88 : i0.bytes * (most + 1) ≤ 281474976710656:=by rw [y2];omega
 go_wp2_with (at_make;go_must (refine wpList_make_full _ rfl _ _ 34 rfl w.heap.size 48 i0 (slV ⟨0,0,0,0⟩) 4 Tryz.underlying34 hi0 y0 y1 .i64 .i64 ((most : Int) + 1) ((most : Int) + 1) (most + 1) rfl rfl (by omega) (by omega) hb88 (by unfold maxLen;omega) (by omega) ?_);intro w5 own5 hg5)
 obtain ⟨hxl,⟨h1,_⟩ | ⟨g,cap,cur,h1,h2,h3,h4,h5,h6,h7⟩⟩:=own5
 · cases h1
 obtain ⟨rfl,hcap⟩ : w.heap.size = g ∧ most + 1 = cap:=by cases h1;exact ⟨rfl,rfl⟩
 subst hcap
 have HL0:=Lh (show Laid w5 w.heap.size ps most (most + 1) from ⟨cur,h3,h6,fun j h1 h2 => by omega⟩)
 have hb5 : Below w.heap.size w w5:=(Below.refl _ _).grown hg5 (by omega) (fun k h => by cases h)
 clear hxl h1 h2 h3 h4 h5 h6 h7 hg5 hi0 y0 y1 y2 hb88
 go_loopw [6,7] (fun nx n wr => ∃ k : Nat,k ≤ most + 1 ∧ n = .int .i64 ((k : Int) - 1) ∧ (∃ q : Nat,nx = .int .i64 q ∧ (0 < k → q = freeA ps most (k - 1)) ∧ q ≤ 8191) ∧ Hid (Laid wr w.heap.size ps most k) ∧ Below w.heap.size w wr) (fun _ n _ => ((intOf n) + 1).toNat)
 case atStart => exact ⟨most + 1,Nat.le_refl _,by simp,⟨0,rfl,fun _ => by simp [freeA],by omega⟩,HL0,hb5⟩
 case round =>
   clear HL0 hb5
   obtain ⟨k,hk,rfl,⟨q,rfl,hq,hq2⟩,HLA,hbr⟩:=hrel
   have hf' : wr.cell? ⟨fb,2,none⟩ = some (.map (some mb)):=(World.cell?_of_block (a:=⟨fb,2,none⟩) (hbr.block fb hfb)).trans hf
   have hzr:=hbr.size
   cases k with
   | zero =>
     have d0 : decide ((0 : Int) ≤ ((0 : Nat) : Int) - 1) = false:=by decide
     obtain ⟨cur,hc1,hc2,hc3⟩:=HLA.out
     obtain ⟨v3,hv3⟩ : ∃ v,cur[3]? = some v:=⟨_,Array.getElem?_eq_getElem (by omega)⟩
     have c3 : wr.cell? ⟨w.heap.size,3,none⟩ = some v3:=by simp [World.cell?,hc1,hv3]
     have f3 : wr.frozen? ⟨w.heap.size,3,none⟩ = false:=by simp [World.frozen?,hc1]
     have gm : decide ((0 : Int) < (most : Int) + 1) = true:=by rw [decide_eq_true_eq];omega
     have HC:=Lh (And.intro hc1 (And.intro hc2 hc3))
     clear hc1 hc2 hc3 HLA hv3
     go_wp2
     go_ret
     exact ⟨_,_,rfl,Nat.le_refl _,row_done HC.out.1 HC.out.2.1 HC.out.2.2 hp0 hm (Nat.le_refl _),bel⟩
   | succ j =>
     have ej : (((j + 1 : Nat) : Int) - 1) = (j : Int):=by omega
     rw [ej]
     have d0 : decide ((0 : Int) ≤ (j : Int)) = true:=by simp
     have hMr : MpS wr mb nn ps:=HM.out.below (hbr.mono (Nat.le_refl _))
     obtain ⟨x,hlook,hx⟩:=hMr.look (j : Int) (by omega) (by omega)
     obtain ⟨x1,x2,x3,x4⟩:=x
     unfold slV at hlook
     cases hfnd : ps.find? (fun y => y.num == (j : Int)) with
     | some y =>
       have hy:=hx y hfnd
       rw [hfnd] at hlook
       have hlook' : (Instr.lookup 101 (.map (some mb)) (.int .i64 j) true).run Tryz.prog wr = .ok (.tuple #[.agg #[.int .i64 x1,.int .i64 x2,.int .i64 x3,.int .i64 x4],.bool true]) wr:=hlook
       obtain ⟨cur,hc1,hc2,hc3⟩:=HLA.out
       have hglt:=lt_of_block hc1
       have hj : j ≤ most:=by omega
       obtain ⟨v0,hv0⟩ : ∃ v,cur[j * 4]? = some v:=⟨_,Array.getElem?_eq_getElem (by omega)⟩
       obtain ⟨v1,hv1⟩ : ∃ v,cur[j * 4 + 1]? = some v:=⟨_,Array.getElem?_eq_getElem (by omega)⟩
       obtain ⟨v2,hv2⟩ : ∃ v,cur[j * 4 + 2]? = some v:=⟨_,Array.getElem?_eq_getElem (by omega)⟩
       obtain ⟨v3,hv3⟩ : ∃ v,cur[j * 4 + 3]? = some v:=⟨_,Array.getElem?_eq_getElem (by omega)⟩
       have c0 : wr.cell? ⟨w.heap.size,j * 4,none⟩ = some v0:=by simp [World.cell?,hc1,hv0]
       have c1 : wr.cell? ⟨w.heap.size,j * 4 + 1,none⟩ = some v1:=by simp [World.cell?,hc1,hv1]
       have c2 : wr.cell? ⟨w.heap.size,j * 4 + 2,none⟩ = some v2:=by simp [World.cell?,hc1,hv2]
       have c3 : wr.cell? ⟨w.heap.size,j * 4 + 3,none⟩ = some v3:=by simp [World.cell?,hc1,hv3]
       have ff : ∀ o,wr.frozen? ⟨w.heap.size,o,none⟩ = false:=by intro o;simp [World.frozen?,hc1]
       have hne : ¬ w.heap.size = wr.heap.size:=by omega
       have gj : decide ((j : Int) < (most : Int) + 1) = true:=by rw [decide_eq_true_eq];omega
       have gj2 : (j : Int) < (most : Int) + 1:=by omega
       have wj : IntKind.i64.wrap ((j : Int) - 1) = (j : Int) - 1:=IntWalk.i64_in _ (by omega)
       have HC:=Lh (And.intro hc1 (And.intro hc2 hc3))
       clear hc1 hc2 hc3 hv0 hv1 hv2 hv3
       clear hlook hx HLA hMr
       have hsv : slotV ps most j = ⟨x1,x2,x3,x4⟩:=by unfold slotV;rw [hfnd];exact hy.symm
       have hqq : 0 < j → q = freeA ps most (j - 1):=fun h => by
         rw [hq (by omega),freeA_pred ps most (j - 1) (by omega),show j - 1 + 1 = j by omega,if_neg ?_]
         · rfl
         · intro hall
           rw [find_none_all.2 hall] at hfnd;cases hfnd
       go_wp2
       go_roundw
       case rel => exact ⟨j,by omega,rfl,⟨q,rfl,hqq,hq2⟩,Lh (by first | exact (laid_put HC.out.1 HC.out.2.1 HC.out.2.2 hj hsv).alloc _ | exact ((laid_put HC.out.1 HC.out.2.1 HC.out.2.2 hj hsv).alloc _).alloc _),bel⟩
       case measure => simp [intOf] <;> omega
     | none =>
       rw [hfnd] at hlook
       have hlook' : (Instr.lookup 101 (.map (some mb)) (.int .i64 j) true).run Tryz.prog wr = .ok (.tuple #[.agg #[.int .i64 x1,.int .i64 x2,.int .i64 x3,.int .i64 x4],.bool false]) wr:=hlook
       obtain ⟨cur,hc1,hc2,hc3⟩:=HLA.out
       have hglt:=lt_of_block hc1
       have hj : j ≤ most:=by omega
       obtain ⟨v0,hv0⟩ : ∃ v,cur[j * 4]? = some v:=⟨_,Array.getElem?_eq_getElem (by omega)⟩
       obtain ⟨v1,hv1⟩ : ∃ v,cur[j * 4 + 1]? = some v:=⟨_,Array.getElem?_eq_getElem (by omega)⟩
       obtain ⟨v2,hv2⟩ : ∃ v,cur[j * 4 + 2]? = some v:=⟨_,Array.getElem?_eq_getElem (by omega)⟩
       obtain ⟨v3,hv3⟩ : ∃ v,cur[j * 4 + 3]? = some v:=⟨_,Array.getElem?_eq_getElem (by omega)⟩
       have c0 : wr.cell? ⟨w.heap.size,j * 4,none⟩ = some v0:=by simp [World.cell?,hc1,hv0]
       have c1 : wr.cell? ⟨w.heap.size,j * 4 + 1,none⟩ = some v1:=by simp [World.cell?,hc1,hv1]
       have c2 : wr.cell? ⟨w.heap.size,j * 4 + 2,none⟩ = some v2:=by simp [World.cell?,hc1,hv2]
       have c3 : wr.cell? ⟨w.heap.size,j * 4 + 3,none⟩ = some v3:=by simp [World.cell?,hc1,hv3]
       have ff : ∀ o,wr.frozen? ⟨w.heap.size,o,none⟩ = false:=by intro o;simp [World.frozen?,hc1]
       have hne : ¬ w.heap.size = wr.heap.size:=by omega
       have gj : decide ((j : Int) < (most : Int) + 1) = true:=by rw [decide_eq_true_eq];omega
       have gj2 : (j : Int) < (most : Int) + 1:=by omega
       have wj : IntKind.i64.wrap ((j : Int) - 1) = (j : Int) - 1:=IntWalk.i64_in _ (by omega)
       have HC:=Lh (And.intro hc1 (And.intro hc2 hc3))
       clear hc1 hc2 hc3 hv0 hv1 hv2 hv3 hlook hx HLA hMr
       have hq0:=Lh (hq (by omega))
       have hsv : slotV ps most j = ⟨j,0,q,0⟩:=by
         unfold slotV;rw [hfnd,hq0.out];rfl
       clear hq
       have hqq : 0 < j → j = freeA ps most (j - 1):=fun h => by
         rw [freeA_pred ps most (j - 1) (by omega),show j - 1 + 1 = j by omega,if_pos (find_none_all.1 hfnd)]
       go_wp2
       go_roundw
       case rel => exact ⟨j,by omega,rfl,⟨j,rfl,hqq,by omega⟩,Lh (by first | exact (laid_put HC.out.1 HC.out.2.1 HC.out.2.2 hj hsv).alloc _ | exact ((laid_put HC.out.1 HC.out.2.1 HC.out.2.2 hj hsv).alloc _).alloc _),bel⟩
       case measure => simp [intOf] <;> omega
theorem row_set {α : Type} {E : Enc α} {t : TypeId} {w : World} {B b o : Nat} {v u : Value} {xs : List α} (h : rownS E t w B v xs) (hb : b < B) : rownS E t (w.setCell ⟨b,o,none⟩ u) B v xs :=
 World.ownsRow.kept h (row:=some b) ⟨rfl,rfl,rfl,by simp [World.setCell],fun k _ hk => Below.heap_setCell _ _ _ _ (fun e => hk (by rw [e]))⟩ (.inr (fun e => by have:=own_base h _ e;omega))
theorem OvsAt.take {S : Nat → Prop} {d : Nat} {w : World} {vs : List Ov} {os : List Ob} (h : OvsAt S d w vs os) (q : Nat) : OvsAt S d w (vs.take q) (os.take q):=by
 refine ⟨by simp [h.1],fun i v o hv ho => ?_⟩
 by_cases hi : i < q
 · rw [List.getElem?_take_of_lt hi] at hv ho
   exact h.2 i v o hv ho
 · rw [List.getElem?_take_eq_none (by omega)] at hv
   cases hv
theorem OvsAt.drop {S : Nat → Prop} {d : Nat} {w : World} {vs : List Ov} {os : List Ob} (h : OvsAt S d w vs os) (q : Nat) : OvsAt S d w (vs.drop q) (os.drop q):=by
 refine ⟨by simp [h.1],fun i v o hv ho => ?_⟩
 rw [List.getElem?_drop] at hv ho
 exact h.2 _ v o hv ho
theorem OvsAt.append {S : Nat → Prop} {d : Nat} {w : World} {vs us : List Ov} {os ps : List Ob} (h : OvsAt S d w vs os) (k : OvsAt S d w us ps) : OvsAt S d w (vs ++ us) (os ++ ps):=by
 refine ⟨by simp [h.1,k.1],fun i v o hv ho => ?_⟩
 by_cases hi : i < vs.length
 · rw [List.getElem?_append_left hi] at hv
   rw [List.getElem?_append_left (by rw [← h.1];exact hi)] at ho
   exact h.2 i v o hv ho
 · rw [List.getElem?_append_right (by omega)] at hv
   rw [List.getElem?_append_right (by rw [← h.1];omega),← h.1] at ho
   exact k.2 _ v o hv ho
theorem r5put (S : Nat → Prop) (d : Nat) (w : World) (o v : Ob) (p1 p2 y1 y2 : Option Addr) (n1 c1 n2 c2 t1 u1 t2 u2 : Nat) (key : L) (hO : ObjAt S (d + 1) w (objCells o.kind o.n o.g o.s (.slice p1 n1 c1) (.slice p2 n2 c2)) o) (hV : ObjAt S d w (objCells v.kind v.n v.g v.s (.slice y1 t1 u1) (.slice y2 t2 u2)) v) (hS : ∀ b, S b → b < w.heap.size) (hkl : o.keys.length = o.kids.length) (hl : o.kids.length ≤ 8192) (hab : key ∉ o.keys) (hc1 : n1 ≤ c1) (hc2 : n2 ≤ c2) (hp1 : p1 = none → c1 = 0) (hp2 : p2 = none → c2 = 0) :
   Calls Tryz.prog 63 #[.agg #[.int .i64 o.kind,.int .i64 o.n,.int .i64 o.g,.string ⟨o.s.toArray⟩,.slice p1 n1 c1,.slice p2 n2 c2],.string ⟨key.toArray⟩,.agg #[.int .i64 v.kind,.int .i64 v.n,.int .i64 v.g,.string ⟨v.s.toArray⟩,.slice y1 t1 u1,.slice y2 t2 u2]] w fun e w' => ∃ q1 a1 m1 q2 a2 m2,e = .returned (.agg #[.int .i64 o.kind,.int .i64 o.n,.int .i64 o.g,.string ⟨o.s.toArray⟩,.slice q1 a1 m1,.slice q2 a2 m2]) ∧
     ObjAt (fun b => w.heap.size ≤ b ∨ S b) (d + 1) w' (objCells o.kind o.n o.g o.s (.slice q1 a1 m1) (.slice q2 a2 m2)) (putO o key v) ∧ Below w.heap.size w w':=by
 obtain ⟨kv,dv,hcs,hK0,hR0⟩:=hO
 have hR : RowAt S d w (.slice p2 n2 c2) o.kids:=by
   simp [objCells] at hcs;rw [hcs.2];exact hR0
 have hK : KeysAt S w (.slice p1 n1 c1) o.keys:=by
   simp [objCells] at hcs;rw [hcs.1];exact hK0
 clear hK0 hR0 hcs
 obtain ⟨m,hm⟩ : ∃ m,o.kids.length = m:=⟨_,rfl⟩
 obtain rfl : n2 = m:=by
   rcases hR with ⟨e,p,c,h1⟩ | ⟨b,off,c,h1,_⟩
   · cases h1;rw [e] at hm;simpa using hm
   · cases h1;exact hm
 have hkn : o.keys.length = n2:=by rw [hkl];exact hm
 obtain rfl : n2 = n1:=by
   rcases hK with ⟨e,p,c,h1⟩ | ⟨b,off,c,h1,_⟩
   · cases h1;rw [e] at hkn;simpa using hkn.symm
   · cases h1;exact hkn.symm
 rw [hm] at hl
 obtain ⟨q,hq⟩ : ∃ q,lowS o.keys key = q:=⟨_,rfl⟩
 have hqn : q ≤ n2:=by rw [← hq,← hkn];exact lowS_le _ _
 have HPT:=Lh (show putO o key v = .mk o.kind o.n o.g o.s (o.keys.take q ++ [key] ++ o.keys.drop q) (o.kids.take q ++ [v] ++ o.kids.drop q) by rw [put_new _ hab,hq,List.append_assoc,List.append_assoc];rfl)
 have HPL:=Lh (fun (W : World) (hW : Below w.heap.size w W) => r5place S W p1 n2 c1 o.keys key (hK.kept (fun b h => hW.block b (hS b h))) hkn hl hab)
 rw [hq] at HPL
 have hKA:=keys_arg hK hS
 obtain ⟨vs,hVA,hVO⟩:=kids_arg hR hS
 have hvl : vs.length = n2:=by rw [hVO.1];exact hm
 have HKA:=Lh (And.intro hKA hkn)
 have HP1:=Lh hp1
 have HP2:=Lh hp2
 have HVA:=Lh (And.intro hVA (And.intro hVO (And.intro hvl (And.intro hV hS))))
 clear hp1 hp2 hK hR hKA hVA hVO hvl hkl hm hkn hq hab hV hS
 go_enter Tryz.func63,Tryz.ntmps63
 go_wp2_with fail
 obtain ⟨w0,hw0⟩ : ∃ w0,((w.alloc (.cells #[.int .i64 o.kind,.int .i64 o.n,.int .i64 o.g,.string ⟨o.s.toArray⟩,.slice p1 n2 c1,.slice p2 n2 c2] 26)).alloc (.cells #[.int .i64 v.kind,.int .i64 v.n,.int .i64 v.g,.string ⟨v.s.toArray⟩,.slice y1 t1 u1,.slice y2 t2 u2] 26)).alloc (.cells #[.int .i64 0,.int .i64 0,.int .i64 0,.string ⟨#[]⟩,.slice none 0 0,.slice none 0 0] 26) = w0:=⟨_,rfl⟩
 have hx0 : w0.heap[w.heap.size]? = some (.cells #[.int .i64 o.kind,.int .i64 o.n,.int .i64 o.g,.string ⟨o.s.toArray⟩,.slice p1 n2 c1,.slice p2 n2 c2] 26 (0,0)):=by rw [← hw0];exact (Below.heap_alloc _ _ _ (by simp;omega)).trans ((Below.heap_alloc _ _ _ (by simp)).trans (heap_new_at _ _ _ rfl))
 have hx1 : w0.heap[w.heap.size + 1]? = some (.cells #[.int .i64 v.kind,.int .i64 v.n,.int .i64 v.g,.string ⟨v.s.toArray⟩,.slice y1 t1 u1,.slice y2 t2 u2] 26 (0,0)):=by rw [← hw0];exact (Below.heap_alloc _ _ _ (by simp)).trans (heap_new_at _ _ _ (by simp))
 have hx2 : w0.heap[w.heap.size + 2]? = some (.cells #[.int .i64 0,.int .i64 0,.int .i64 0,.string ⟨#[]⟩,.slice none 0 0,.slice none 0 0] 26 (0,0)):=by rw [← hw0];exact heap_new_at _ _ _ (by simp)
 have hb0 : Below w.heap.size w w0:=by rw [← hw0];exact bel
 have hz0 : w0.heap.size = w.heap.size + 3:=by rw [← hw0];simp
 rw [hw0]
 clear hw0
 refine (HPL.out _ hb0).mono ?_
 rintro e w1 ⟨rfl,hb1⟩
 have hz1:=hb1.size
 have hx01:=(hb1.block _ (by omega)).trans hx0
 have hx11:=(hb1.block _ (by omega)).trans hx1
 have hx21:=(hb1.block _ (by omega)).trans hx2
 have hbw1:=hb0.trans (hb1.mono hb0.size)
 have HX:=Lh (And.intro hx01 (And.intro hx11 hx21))
 clear hx0 hx1 hx2 hx01 hx11 hx21 hb1 HPL
 obtain ⟨z0,z1,z2,z3,z4,z5,zf⟩:=six_of HX.out.1
 have v1 : (0 : Int) ≤ q:=by omega
 have v2 : (q : Int) ≤ n2:=by omega
 have v3 : (q : Int) ≤ c1:=by omega
 have v4 : (q : Int) ≤ c2:=by omega
 have HKT:=Lh (fun (W : World) (hW : Below w.heap.size w W) => (HKA.out.1.below hW).take (q:=q) (by rw [HKA.out.2];exact hqn))
 have HVT:=Lh (fun (W : World) (hW : Below w.heap.size w W) => (HVA.out.1.below hW).take (q:=q) (by rw [HVA.out.2.2.1];exact hqn))
 obtain ⟨A,hA⟩ : ∃ A,o.keys.take q = A:=⟨_,rfl⟩
 obtain ⟨V,hV⟩ : ∃ V,vs.take q = V:=⟨_,rfl⟩
 have HAL:=Lh (show A.length = q by rw [← hA];simp;have:=HKA.out.2;omega)
 have HVL:=Lh (show V.length = q by rw [← hV];simp;have:=HVA.out.2.2.1;omega)
 rw [hA] at HKT
 rw [hV] at HVT
 have HAV:=Lh (And.intro hA hV)
 clear hA hV
 -- keys up to the place
 have HL0 : rownS encK 9 (w1.alloc (.cells #[] 9)) (w.heap.size + 3) (.slice (some ⟨w1.heap.size,0,none⟩) 0 0) []:=World.ownsRow_lit (e:=9) (size:=1) (base:=w.heap.size + 3) w1 #[] 0 (by omega) (by unfold maxLen;omega) rfl
 have hbw2:=hbw1.alloc hbw1.size (.cells #[] 9)
 have hb12 : Below (w.heap.size + 3) w1 (w1.alloc (.cells #[] 9)):=(Below.refl _ _).alloc (by omega) _
 obtain ⟨w2,hw2⟩ : ∃ w2,w1.alloc (.cells #[] 9) = w2:=⟨_,rfl⟩
 have hz2 : w.heap.size + 3 ≤ w2.heap.size:=by rw [← hw2];simp;omega
 rw [hw2] at HL0 hbw2 hb12
 clear z0 z1 z2 z3 z4 z5 zf
 obtain ⟨z0,z1,z2,z3,z4,z5,zf⟩:=six_of (show w1.heap[w.heap.size]? = _ from HX.out.1)
 obtain ⟨x0,x1,x2,x3,x4,x5,xf⟩:=six_of ((hb12.block _ (by omega)).trans HX.out.1)
 go_upto_region 3 with (at_builtin;go_must (refine rappendR (E:=encK) rfl _ _ rfl Tryz.underlying23 Tryz.infoKs rfl (by decide) (by decide) (w.heap.size + 3) _ _ [] A HL0 rfl rfl (HKT.out _ hbw2) (by intro c e;have h1:=Value.slice.inj e;rw [← h1.2.2];exact HP1.out h1.1) (by rw [HAL.out];simp only [List.length_nil];omega) (by omega) ?_);intro p3 q3 w3 hr3 hb3 hg3;simp only [List.length_nil,List.nil_append,Nat.zero_add,HAL.out] at hr3 ⊢)
 have hb13:=hb12.trans hb3
 have hbw3:=hbw2.trans (hb3.mono (by omega))
 have HX3:=Lh (And.intro ((hb13.block _ (by omega)).trans HX.out.1) (And.intro ((hb13.block _ (by omega)).trans HX.out.2.1) ((hb13.block _ (by omega)).trans HX.out.2.2)))
 have hz3 : w.heap.size + 3 ≤ w3.heap.size:=by have:=hb3.size;omega
 have HR3:=Lh hr3
 clear HX hb12 hb3 hg3 hr3 HL0 HKT z0 z1 z2 z3 z4 z5 zf x0 x1 x2 x3 x4 x5 xf hw2 hbw2 hz2 hb13
 -- kids up to the place
 have HL0 : rownS encOv 26 (w3.alloc (.cells #[] 26)) (w.heap.size + 3) (.slice (some ⟨w3.heap.size,0,none⟩) 0 0) []:=World.ownsRow_lit (e:=26) (size:=6) (base:=w.heap.size + 3) w3 #[] 0 (by omega) (by unfold maxLen;omega) rfl
 have hbw4:=hbw3.alloc hbw3.size (.cells #[] 26)
 have hb34 : Below (w.heap.size + 3) w3 (w3.alloc (.cells #[] 26)):=(Below.refl _ _).alloc (by omega) _
 have hr4:=HR3.out.below ((Below.refl _ w3).alloc (Nat.le_refl _) (.cells #[] 26))
 obtain ⟨w4,hw4⟩ : ∃ w4,w3.alloc (.cells #[] 26) = w4:=⟨_,rfl⟩
 have hz4 : w.heap.size + 3 ≤ w4.heap.size:=by rw [← hw4];simp;omega
 rw [hw4] at HL0 hbw4 hb34 hr4
 have HR4:=Lh hr4
 clear hr4
 obtain ⟨z0,z1,z2,z3,z4,z5,zf⟩:=six_of (show w3.heap[w.heap.size]? = _ from HX3.out.1)
 obtain ⟨x0,x1,x2,x3,x4,x5,xf⟩:=six_of ((hb34.block _ (by omega)).trans HX3.out.1)
 go_upto_region 4 with (at_builtin;go_must (refine rappendR (E:=encOv) rfl _ _ rfl Tryz.underlying24 Tryz.infoOs rfl (by decide) (by decide) (w.heap.size + 3) _ _ [] V HL0 rfl rfl (HVT.out _ hbw4) (by intro c e;have h1:=Value.slice.inj e;rw [← h1.2.2];exact HP2.out h1.1) (by rw [HVL.out];simp only [List.length_nil];omega) (by omega) ?_);intro p5 q5 w5 hr5 hb5 hg5;have HK5:=Lh (row_other HR4.out HL0 (by decide) hg5);simp only [List.length_nil,List.nil_append,Nat.zero_add,HVL.out] at hr5 ⊢)
 have hb35:=hb34.trans hb5
 have hbw5:=hbw4.trans (hb5.mono (by omega))
 have HX5:=Lh (And.intro ((hb35.block _ (by omega)).trans HX3.out.1) (And.intro ((hb35.block _ (by omega)).trans HX3.out.2.1) ((hb35.block _ (by omega)).trans HX3.out.2.2)))
 have hz5 : w.heap.size + 3 ≤ w5.heap.size:=by have:=hb5.size;omega
 have HO5:=Lh hr5
 clear HX3 hb34 hb5 hg5 hr5 HL0 HVT z0 z1 z2 z3 z4 z5 zf x0 x1 x2 x3 x4 x5 xf hw4 hbw4 hz4 hb35 HR4 HR3 hz3 hbw3
 -- the key
 go_upto_region 5 with (at_builtin;go_must (refine rappend (E:=encK) rfl _ _ rfl Tryz.underlying23 Tryz.infoKs rfl (by decide) (by decide) (w.heap.size + 3) _ A key HK5.out rfl rfl (by rw [HAL.out];omega) hz5 ?_);intro p6 q6 w6 hr6 hb6 hz6' hg6;have HO6:=Lh (row_other (HO5.out.below ((Below.refl _ w5).alloc (Nat.le_refl _) (.cells (encK.cells key).toArray 9))) (World.ownsRow.alloc HK5.out _) (by decide) hg6);simp only [HAL.out] at hr6 ⊢)
 have hbw6:=hbw5.trans (hb6.mono (by omega))
 have HX6:=Lh (And.intro ((hb6.block _ (by omega)).trans HX5.out.1) (And.intro ((hb6.block _ (by omega)).trans HX5.out.2.1) ((hb6.block _ (by omega)).trans HX5.out.2.2)))
 have hz6 : w.heap.size + 3 ≤ w6.heap.size:=by have:=hb6.size;omega
 have HK6:=Lh hr6
 clear HX5 hb6 hz6' hg6 hr6 HO5 HK5 hz5 hbw5
 -- the value
 obtain ⟨z0,z1,z2,z3,z4,z5,zf⟩:=six_of HX6.out.2.1
 go_upto_region 6 with (at_builtin;go_must (refine rappend (E:=encOv) rfl _ _ rfl Tryz.underlying24 Tryz.infoOs rfl (by decide) (by decide) (w.heap.size + 3) _ V ⟨v.kind,v.n,v.g,⟨v.s.toArray⟩,y1,t1,u1,y2,t2,u2⟩ HO6.out rfl rfl (by rw [HVL.out];omega) hz6 ?_);intro p7 q7 w7 hr7 hb7 hz7' hg7;have HK7:=Lh (row_other (HK6.out.below ((Below.refl _ w6).alloc (Nat.le_refl _) (.cells (encOv.cells ⟨v.kind,v.n,v.g,⟨v.s.toArray⟩,y1,t1,u1,y2,t2,u2⟩).toArray 26))) (World.ownsRow.alloc HO6.out _) (by decide) hg7);simp only [HVL.out] at hr7 ⊢)
 have hbw7:=hbw6.trans (hb7.mono (by omega))
 have HX7:=Lh (And.intro ((hb7.block _ (by omega)).trans HX6.out.1) (And.intro ((hb7.block _ (by omega)).trans HX6.out.2.1) ((hb7.block _ (by omega)).trans HX6.out.2.2)))
 have hz7 : w.heap.size + 3 ≤ w7.heap.size:=by have:=hb7.size;omega
 have HO7:=Lh hr7
 clear HX6 hb7 hz7' hg7 hr7 HO6 HK6 hz6 hbw6 z0 z1 z2 z3 z4 z5 zf
 obtain ⟨z0,z1,z2,z3,z4,z5,zf⟩:=six_of HX7.out.1
 obtain ⟨P1,hrun1,HD1,hpn1⟩:=rest_run (E:=encK) Tryz.underlying23 (fun w => Tryz.sizeOf9 w) p1 n2 c1 q hqn hc1 HP1.out
 obtain ⟨P2,hrun2,HD2,hpn2⟩:=rest_run (E:=encOv) Tryz.underlying24 (fun w => Tryz.sizeOf26 w) p2 n2 c2 q hqn hc2 HP2.out
 obtain ⟨r,hr⟩ : ∃ r,n2 - q = r:=⟨_,rfl⟩
 rw [hr] at hrun1 HD1 hrun2 HD2
 obtain ⟨D,hD⟩ : ∃ D,o.keys.drop q = D:=⟨_,rfl⟩
 obtain ⟨F,hF⟩ : ∃ F,vs.drop q = F:=⟨_,rfl⟩
 have HDL:=Lh (show D.length = r by rw [← hD];simp;have:=HKA.out.2;omega)
 have HFL:=Lh (show F.length = r by rw [← hF];simp;have:=HVA.out.2.2.1;omega)
 have HDA:=Lh (fun (W : World) (hW : Below w.heap.size w W) => HD1 W _ (HKA.out.1.below hW))
 have HFA:=Lh (fun (W : World) (hW : Below w.heap.size w W) => HD2 W _ (HVA.out.1.below hW))
 rw [hD] at HDA
 rw [hF] at HFA
 have hrl : r ≤ 8192:=by omega
 have HDF:=Lh (And.intro hD (And.intro hF hr))
 have HPN:=Lh (And.intro hpn1 hpn2)
 clear hD hF hr HD1 HD2 hpn1 hpn2
 go_upto_region 9 with (at_builtin;go_must (refine rappendR (E:=encK) rfl _ _ rfl Tryz.underlying23 Tryz.infoKs rfl (by decide) (by decide) (w.heap.size + 3) _ _ (A ++ [key]) D HK7.out rfl rfl (HDA.out _ hbw7) (by intro c e;have h1:=Value.slice.inj e;rw [← h1.2.2];exact HPN.out.1 h1.1) (by rw [HDL.out,List.length_append,HAL.out];simp only [List.length_cons,List.length_nil];omega) hz7 ?_);intro p8 q8 w8 hr8 hb8 hg8;have HO8:=Lh (row_other HO7.out HK7.out (by decide) hg8);simp only [List.length_append,List.length_cons,List.length_nil,Nat.zero_add,HAL.out,HDL.out] at hr8 ⊢;clear z0 z1 z2 z3 z4 z5 zf;obtain ⟨z0,z1,z2,z3,z4,z5,zf⟩:=six_of ((hb8.block _ (by omega)).trans HX7.out.1))
 obtain ⟨w9,hw9⟩ : ∃ w9,w8.setCell ⟨w.heap.size,4,none⟩ (.slice p8 (q + 1 + r) q8) = w9:=⟨_,rfl⟩
 have hbw8:=hbw7.trans (hb8.mono (by omega))
 have hz8:=hb8.size
 have hx9 : w9.heap[w.heap.size]? = some (.cells #[.int .i64 o.kind,.int .i64 o.n,.int .i64 o.g,.string ⟨o.s.toArray⟩,.slice p8 (q + 1 + r) q8,.slice p2 n2 c2] 26 (0,0)):=by
   rw [← hw9,set_any ((hb8.block _ (by omega)).trans HX7.out.1)];rfl
 have hx92 : w9.heap[w.heap.size + 2]? = some (.cells #[.int .i64 0,.int .i64 0,.int .i64 0,.string ⟨#[]⟩,.slice none 0 0,.slice none 0 0] 26 (0,0)):=by
   rw [← hw9];exact (Below.heap_setCell _ _ _ _ (by show w.heap.size + 2 ≠ w.heap.size;omega)).trans ((hb8.block _ (by omega)).trans HX7.out.2.2)
 have hbw9 : Below w.heap.size w w9:=by rw [← hw9];exact hbw8.setCell (p:=⟨w.heap.size,4,none⟩) (Nat.le_refl _) _
 have hz9 : w.heap.size + 3 ≤ w9.heap.size:=by rw [← hw9];simp [World.setCell];omega
 have HK9:=Lh (show rownS encK 9 w9 (w.heap.size + 3) (.slice p8 (q + 1 + r) q8) (A ++ [key] ++ D) by rw [← hw9];exact row_set hr8 (by omega))
 have HO9:=Lh (show rownS encOv 26 w9 (w.heap.size + 3) (.slice p7 (q + 1) q7) (V ++ [⟨v.kind,v.n,v.g,⟨v.s.toArray⟩,y1,t1,u1,y2,t2,u2⟩]) by rw [← hw9];exact row_set HO8.out (by omega))
 have HX9:=Lh (And.intro hx9 hx92)
 rw [hw9]
 clear hw9 hbw8 hz8 hx9 hx92 hr8 HO8 hb8 hg8 HK7 HO7 HX7 hz7 hbw7 hrun1 HDA z0 z1 z2 z3 z4 z5 zf
 obtain ⟨z0,z1,z2,z3,z4,z5,zf⟩:=six_of HX9.out.1
 go_upto_region 10 with (at_builtin;go_must (refine rappendR (E:=encOv) rfl _ _ rfl Tryz.underlying24 Tryz.infoOs rfl (by decide) (by decide) (w.heap.size + 3) _ _ (V ++ [⟨v.kind,v.n,v.g,⟨v.s.toArray⟩,y1,t1,u1,y2,t2,u2⟩]) F HO9.out rfl rfl (HFA.out _ hbw9) (by intro c e;have h1:=Value.slice.inj e;rw [← h1.2.2];exact HPN.out.2 h1.1) (by rw [HFL.out,List.length_append,HVL.out];simp only [List.length_cons,List.length_nil];omega) hz9 ?_);intro p10 q10 w10 hr10 hb10 hg10;have HK10:=Lh (row_other HK9.out HO9.out (by decide) hg10);simp only [List.length_append,List.length_cons,List.length_nil,Nat.zero_add,HVL.out,HFL.out] at hr10 ⊢;clear z0 z1 z2 z3 z4 z5 zf;obtain ⟨z0,z1,z2,z3,z4,z5,zf⟩:=six_of ((hb10.block _ (by omega)).trans HX9.out.1))
 obtain ⟨w11,hw11⟩ : ∃ w11,w10.setCell ⟨w.heap.size,5,none⟩ (.slice p10 (q + 1 + r) q10) = w11:=⟨_,rfl⟩
 have hbw10:=hbw9.trans (hb10.mono (by omega))
 have hz10:=hb10.size
 have hx11 : w11.heap[w.heap.size]? = some (.cells #[.int .i64 o.kind,.int .i64 o.n,.int .i64 o.g,.string ⟨o.s.toArray⟩,.slice p8 (q + 1 + r) q8,.slice p10 (q + 1 + r) q10] 26 (0,0)):=by
   rw [← hw11,set_any ((hb10.block _ (by omega)).trans HX9.out.1)];rfl
 have hx112 : w11.heap[w.heap.size + 2]? = some (.cells #[.int .i64 0,.int .i64 0,.int .i64 0,.string ⟨#[]⟩,.slice none 0 0,.slice none 0 0] 26 (0,0)):=by
   rw [← hw11];exact (Below.heap_setCell _ _ _ _ (by show w.heap.size + 2 ≠ w.heap.size;omega)).trans ((hb10.block _ (by omega)).trans HX9.out.2)
 have hbw11 : Below w.heap.size w w11:=by rw [← hw11];exact hbw10.setCell (p:=⟨w.heap.size,5,none⟩) (Nat.le_refl _) _
 have hz11 : w.heap.size + 3 ≤ w11.heap.size:=by rw [← hw11];simp [World.setCell];omega
 have HK11:=Lh (show rownS encK 9 w11 (w.heap.size + 3) (.slice p8 (q + 1 + r) q8) (A ++ [key] ++ D) by rw [← hw11];exact row_set HK10.out (by omega))
 have HO11:=Lh (show rownS encOv 26 w11 (w.heap.size + 3) (.slice p10 (q + 1 + r) q10) (V ++ [⟨v.kind,v.n,v.g,⟨v.s.toArray⟩,y1,t1,u1,y2,t2,u2⟩] ++ F) by rw [← hw11];exact row_set hr10 (by omega))
 rw [hw11]
 clear hw11 hbw10 hz10 hr10 HK10 hb10 hg10 HK9 HO9 HX9 hz9 hbw9 hrun2 HFA z0 z1 z2 z3 z4 z5 zf
 obtain ⟨z0,z1,z2,z3,z4,z5,zf⟩:=six_of hx11
 obtain ⟨x0,x1,x2,x3,x4,x5,xf⟩:=six_of hx112
 clear hx11 hx112
 have hOV : OvsAt S d w11 (V ++ [⟨v.kind,v.n,v.g,⟨v.s.toArray⟩,y1,t1,u1,y2,t2,u2⟩] ++ F) (o.kids.take q ++ [v] ++ o.kids.drop q):=by
   rw [← HAV.out.2,← HDF.out.2.1]
   refine (OvsAt.kept (w:=w) ?_ (fun b h => hbw11.block b (HVA.out.2.2.2.2 b h)))
   exact (OvsAt.push (v:=⟨v.kind,v.n,v.g,⟨v.s.toArray⟩,y1,t1,u1,y2,t2,u2⟩) (o:=v) (HVA.out.2.1.take q) HVA.out.2.2.2.1).append (HVA.out.2.1.drop q)
 have hOB:=obj_rows (K:=o.kind) (N:=o.n) (G:=o.g) (s:=o.s) HK11.out HO11.out hOV
 have HOB:=Lh (show ObjAt (fun b => w.heap.size + 3 ≤ b ∨ S b) (d + 1) w11 (objCells o.kind o.n o.g o.s (.slice p8 (q + 1 + r) q8) (.slice p10 (q + 1 + r) q10)) (putO o key v) by
   rw [HPT.out,← HDF.out.1,← HAV.out.1] at *;exact hOB)
 clear hOV hOB HK11 HO11
 go_wp2
 refine bodyPost_ret (v:=.agg #[.int .i64 o.kind,.int .i64 o.n,.int .i64 o.g,.string ⟨o.s.toArray⟩,.slice p8 (q + 1 + r) q8,.slice p10 (q + 1 + r) q10]) (by simp [results,Tryz.results63,go_sem,x0,x1,x2,x3,x4,x5,xf,z0,z1,z2,z3,z4,z5,zf]) rfl ⟨p8,_,q8,p10,_,q10,rfl,?_,?_⟩
 · refine ((HOB.out.kept (w':=_) ?_ (d + 1)).weaken (fun b h _ => h.elim (fun h => .inl (by omega)) .inr) (d + 1))
   intro b hb
   have hb2 : b ≠ w.heap.size + 1 + 1:=by
     rcases hb with hb | hb
     · omega
     · have:=HVA.out.2.2.2.2 b hb;omega
   iterate 6 (refine (Below.heap_setCell _ _ _ _ hb2).trans ?_)
   rfl
 · iterate 6 (refine Below.setCell ?_ (by show _ ≤ w.heap.size + 1 + 1;omega) _)
   exact hbw11
def ObOut (S : Nat → Prop) (d : Nat) (w : World) (P : Ob) (e : Ending) (w' : World) : Prop :=
 ∃ q1 a1 m1 q2 a2 m2,e = .returned (.tuple #[.agg #[.int .i64 P.kind,.int .i64 P.n,.int .i64 P.g,.string ⟨P.s.toArray⟩,.slice q1 a1 m1,.slice q2 a2 m2],.int .i64 0]) ∧
   ObjAt S d w' (objCells P.kind P.n P.g P.s (.slice q1 a1 m1) (.slice q2 a2 m2)) P ∧ Below w.heap.size w w'
theorem r5right (S : Nat → Prop) (d : Nat) (w : World) (P : Ob) (p1 p2 : Option Addr) (n1 c1 n2 c2 : Nat) (hO : ObjAt S d w (objCells P.kind P.n P.g P.s (.slice p1 n1 c1) (.slice p2 n2 c2)) P) (hS : ∀ b, S b → b < w.heap.size) (hsm : smallO d P) (hc : checkB 24 P = 0) :
   Calls Tryz.prog 62 #[.agg #[.int .i64 P.kind,.int .i64 P.n,.int .i64 P.g,.string ⟨P.s.toArray⟩,.slice p1 n1 c1,.slice p2 n2 c2]] w (ObOut S d w P):=by
 have HC:=Lh (fun (W : World) (hW : Below w.heap.size w W) => Check_in S d W _ P (hO.kept (fun b h => hW.block b (hS b h)) d) hsm (fun b h => Nat.lt_of_lt_of_le (hS b h) hW.size) (check_in _ 24 (by omega)))
 rw [hc] at HC
 unfold objCells at HC
 have HO:=Lh (And.intro hO hS)
 clear hO hsm hc hS
 go_enter Tryz.func62,Tryz.ntmps62
 go_wp2_with fail
 obtain ⟨w0,hw0⟩ : ∃ w0,(w.alloc (.cells #[.int .i64 P.kind,.int .i64 P.n,.int .i64 P.g,.string ⟨P.s.toArray⟩,.slice p1 n1 c1,.slice p2 n2 c2] 26)).alloc (.cells #[.int .i64 0,.int .i64 0,.int .i64 0,.string ⟨#[]⟩,.slice none 0 0,.slice none 0 0] 26) = w0:=⟨_,rfl⟩
 have hx0 : w0.heap[w.heap.size]? = some (.cells #[.int .i64 P.kind,.int .i64 P.n,.int .i64 P.g,.string ⟨P.s.toArray⟩,.slice p1 n1 c1,.slice p2 n2 c2] 26 (0,0)):=by rw [← hw0];exact (Below.heap_alloc _ _ _ (by simp)).trans (heap_new_at _ _ _ rfl)
 have hx1 : w0.heap[w.heap.size + 1]? = some (.cells #[.int .i64 0,.int .i64 0,.int .i64 0,.string ⟨#[]⟩,.slice none 0 0,.slice none 0 0] 26 (0,0)):=by rw [← hw0];exact heap_new_at _ _ _ (by simp)
 have hb0 : Below w.heap.size w w0:=by rw [← hw0];exact bel
 have hz0 : w0.heap.size = w.heap.size + 2:=by rw [← hw0];simp
 rw [hw0]
 clear hw0
 refine (HC.out _ hb0).mono ?_
 rintro e w1 ⟨rfl,hb1⟩
 have hz1:=hb1.size
 have hbw1:=hb0.trans (hb1.mono hb0.size)
 have hx01:=(hb1.block _ (by omega)).trans hx0
 have hx11:=(hb1.block _ (by omega)).trans hx1
 clear hx0 hx1 hb1 HC
 obtain ⟨z0,z1,z2,z3,z4,z5,zf⟩:=six_of hx01
 obtain ⟨x0,x1,x2,x3,x4,x5,xf⟩:=six_of hx11
 clear hx01 hx11
 go_wp2
 refine bodyPost_ret (v:=.tuple #[.agg #[.int .i64 P.kind,.int .i64 P.n,.int .i64 P.g,.string ⟨P.s.toArray⟩,.slice p1 n1 c1,.slice p2 n2 c2],.int .i64 0]) (by simp [results,Tryz.results62,go_sem,x0,x1,x2,x3,x4,x5,xf,z0,z1,z2,z3,z4,z5,zf]) rfl ⟨p1,n1,c1,p2,n2,c2,rfl,?_,?_⟩
 · refine HO.out.1.kept (w':=_) ?_ d
   intro b hb
   have hbl:=HO.out.2 b hb
   iterate 6 (refine (Below.heap_setCell _ _ _ _ (by show b ≠ w.heap.size + 1;omega)).trans ?_)
   exact hbw1.block b hbl
 · iterate 6 (refine Below.setCell ?_ (by show _ ≤ w.heap.size + 1;omega) _)
   exact hbw1
theorem r5set (S : Nat → Prop) (d : Nat) (w : World) (o v : Ob) (p1 p2 y1 y2 : Option Addr) (n1 c1 n2 c2 t1 u1 t2 u2 : Nat) (key : L) (hO : ObjAt S (d + 1) w (objCells o.kind o.n o.g o.s (.slice p1 n1 c1) (.slice p2 n2 c2)) o) (hV : ObjAt S d w (objCells v.kind v.n v.g v.s (.slice y1 t1 u1) (.slice y2 t2 u2)) v) (hS : ∀ b, S b → b < w.heap.size) (h7 : o.kind = 7) (hc : checkB 24 o = 0) (hcP : checkB 24 (putO o key v) = 0) (hab : key ∉ o.keys) (hvk : v.kind ≠ 0) (hsm : smallO (d + 1) o) (hsmP : smallO (d + 1) (putO o key v)) (hm : o.kids.length ≤ 8191) (hc1 : n1 ≤ c1) (hc2 : n2 ≤ c2) (hp1 : p1 = none → c1 = 0) (hp2 : p2 = none → c2 = 0) :
   Calls Tryz.prog 25 #[.agg #[.int .i64 o.kind,.int .i64 o.n,.int .i64 o.g,.string ⟨o.s.toArray⟩,.slice p1 n1 c1,.slice p2 n2 c2],.string ⟨key.toArray⟩,.agg #[.int .i64 v.kind,.int .i64 v.n,.int .i64 v.g,.string ⟨v.s.toArray⟩,.slice y1 t1 u1,.slice y2 t2 u2]] w (ObOut (fun b => w.heap.size + 3 ≤ b ∨ S b) (d + 1) w (putO o key v)):=by
 have hko:=(keysB_iff o (.inl h7)).1 ((checkB_iff 23 o).1 hc).keys
 have HC:=Lh (fun (W : World) (hW : Below w.heap.size w W) => Check_in S (d + 1) W _ o (hO.kept (fun b h => hW.block b (hS b h)) (d + 1)) hsm (fun b h => Nat.lt_of_lt_of_le (hS b h) hW.size) (check_in S 24 (by omega)))
 have HP:=Lh (fun (W : World) (hW : Below w.heap.size w W) => r5put S d W o v p1 p2 y1 y2 n1 c1 n2 c2 t1 u1 t2 u2 key (hO.kept (fun b h => hW.block b (hS b h)) (d + 1)) (hV.kept (fun b h => hW.block b (hS b h)) d) (fun b h => Nat.lt_of_lt_of_le (hS b h) hW.size) hko.len (by omega) hab hc1 hc2 hp1 hp2)
 rw [hc] at HC
 have HR:=Lh (fun T W q1 a1 m1 q2 a2 m2 hO hT => r5right T (d + 1) W (putO o key v) q1 q2 a1 m1 a2 m2 hO hT hsmP hcP)
 have hPk : (putO o key v).kind = o.kind ∧ (putO o key v).n = o.n ∧ (putO o key v).g = o.g ∧ (putO o key v).s = o.s:=by unfold putO;exact ⟨rfl,rfl,rfl,rfl⟩
 obtain ⟨P,hP⟩ : ∃ P,putO o key v = P:=⟨_,rfl⟩
 rw [hP] at HP HR hPk ⊢
 unfold objCells at HC
 rw [← hPk.1,← hPk.2.1,← hPk.2.2.1,← hPk.2.2.2] at HP HC ⊢
 have hP7 : P.kind = 7:=hPk.1.trans h7
 have HS:=Lh hS
 clear hO hV hS hc hcP hab hsm hsmP hm hc1 hc2 hp1 hp2 hko hP hPk h7
 have k7 : (P.kind != 7) = false:=by rw [hP7];rfl
 have kv : (v.kind == 0) = false:=by simpa using hvk
 clear hvk hP7
 go_enter Tryz.func25,Tryz.ntmps25
 go_upto_region 3 with fail
 obtain ⟨w0,hw0⟩ : ∃ w0,((w.alloc (.cells #[.int .i64 P.kind,.int .i64 P.n,.int .i64 P.g,.string ⟨P.s.toArray⟩,.slice p1 n1 c1,.slice p2 n2 c2] 26)).alloc (.cells #[.int .i64 v.kind,.int .i64 v.n,.int .i64 v.g,.string ⟨v.s.toArray⟩,.slice y1 t1 u1,.slice y2 t2 u2] 26)).alloc (.cells #[.int .i64 0,.int .i64 0,.int .i64 0,.string ⟨#[]⟩,.slice none 0 0,.slice none 0 0] 26) = w0:=⟨_,rfl⟩
 have hx0 : w0.heap[w.heap.size]? = some (.cells #[.int .i64 P.kind,.int .i64 P.n,.int .i64 P.g,.string ⟨P.s.toArray⟩,.slice p1 n1 c1,.slice p2 n2 c2] 26 (0,0)):=by rw [← hw0];exact (Below.heap_alloc _ _ _ (by simp;omega)).trans ((Below.heap_alloc _ _ _ (by simp)).trans (heap_new_at _ _ _ rfl))
 have hx1 : w0.heap[w.heap.size + 1]? = some (.cells #[.int .i64 v.kind,.int .i64 v.n,.int .i64 v.g,.string ⟨v.s.toArray⟩,.slice y1 t1 u1,.slice y2 t2 u2] 26 (0,0)):=by rw [← hw0];exact (Below.heap_alloc _ _ _ (by simp)).trans (heap_new_at _ _ _ (by simp))
 have hx2 : w0.heap[w.heap.size + 2]? = some (.cells #[.int .i64 0,.int .i64 0,.int .i64 0,.string ⟨#[]⟩,.slice none 0 0,.slice none 0 0] 26 (0,0)):=by rw [← hw0];exact heap_new_at _ _ _ (by simp)
 have hb0 : Below w.heap.size w w0:=by rw [← hw0];exact bel
 have hz0 : w0.heap.size = w.heap.size + 3:=by rw [← hw0];simp
 rw [hw0]
 clear hw0
 obtain ⟨z0,z1,z2,z3,z4,z5,zf⟩:=six_of hx0
 go_wp2_with fail
 refine (HC.out _ hb0).mono ?_
 rintro e w1 ⟨rfl,hb1⟩
 have hz1:=hb1.size
 have hbw1:=hb0.trans (hb1.mono hb0.size)
 have hx01:=(hb1.block _ (by omega)).trans hx0
 have hx11:=(hb1.block _ (by omega)).trans hx1
 have HX2:=Lh ((hb1.block _ (by omega)).trans hx2)
 clear hx0 hx1 hx2 hb1 HC z0 z1 z2 z3 z4 z5 zf
 obtain ⟨z0,z1,z2,z3,z4,z5,zf⟩:=six_of hx01
 obtain ⟨x0,x1,x2,x3,x4,x5,xf⟩:=six_of hx11
 clear hx01 hx11
 go_wp2_with fail
 refine (HP.out _ hbw1).mono ?_
 rintro e w2 ⟨q1,a1,m1,q2,a2,m2,rfl,hO2,hb2⟩
 have hbw2:=hbw1.trans (hb2.mono hbw1.size)
 have hz2:=hb2.size
 have HX22:=Lh ((hb2.block _ (by omega)).trans HX2.out)
 have HR2:=Lh (HR.out (fun b => (w1.heap.size ≤ b ∧ b < w2.heap.size) ∨ S b) w2 q1 a1 m1 q2 a2 m2 (hO2.weaken (fun b h hl => h.elim (fun h => .inl ⟨h,hl⟩) .inr) (d + 1)) (fun b h => h.elim (fun h => h.2) (fun h => Nat.lt_of_lt_of_le (HS.out b h) hbw2.size)))
 clear hO2 hb2 HP HR HX2 z0 z1 z2 z3 z4 z5 zf x0 x1 x2 x3 x4 x5 xf
 go_wp2_with fail
 refine (HR2.out).mono ?_
 rintro e w3 ⟨r1,g1,s1,r2,g2,s2,rfl,hO3,hb3⟩
 have hbw3:=hbw2.trans (hb3.mono hbw2.size)
 have hz3:=hb3.size
 have HO3:=Lh hO3
 obtain ⟨z0,z1,z2,z3,z4,z5,zf⟩:=six_of ((hb3.block _ (by omega)).trans HX22.out)
 clear hO3 hb3 HR2 HX22
 go_wp2
 refine bodyPost_ret (v:=.tuple #[.agg #[.int .i64 P.kind,.int .i64 P.n,.int .i64 P.g,.string ⟨P.s.toArray⟩,.slice r1 g1 s1,.slice r2 g2 s2],.int .i64 0]) (by simp [results,Tryz.results25,go_sem,z0,z1,z2,z3,z4,z5,zf]) rfl ⟨r1,g1,s1,r2,g2,s2,rfl,?_,?_⟩
 · refine (HO3.out.kept (w':=_) ?_ (d + 1)).weaken (fun b h _ => h.elim (fun h => .inl (by omega)) .inr) (d + 1)
   intro b hb
   have hb2 : b ≠ w.heap.size + 1 + 1:=by
     rcases hb with hb | hb
     · omega
     · have:=HS.out b hb;omega
   iterate 6 (refine (Below.heap_setCell _ _ _ _ hb2).trans ?_)
   rfl
 · iterate 6 (refine Below.setCell ?_ (by show _ ≤ w.heap.size + 1 + 1;omega) _)
   exact hbw3
theorem hexv_lt (c : UInt8) : hexv c < (16 : Int):=digit_lt c.toNat
theorem val_snoc (l : L) (c : UInt8) : val (l ++ [c]) = 10 * val l + (c.toNat - 48):=by simp [val,List.foldl_append]
def rest (b : L) : L:=Lib.trimRightS ((b ++ [48,48,48,48,48]).drop 4) [48]
theorem eightf {w : World} {b : Nat} {t : TypeId} {v0 v1 v2 v3 v4 v5 v6 v7 : Value} (h : w.heap[b]? = some (.cells #[v0, v1, v2, v3, v4, v5, v6, v7] t (0, 0))) :
   w.cell? ⟨b,0,none⟩ = some v0 ∧ w.cell? ⟨b,1,none⟩ = some v1 ∧ w.cell? ⟨b,2,none⟩ = some v2 ∧ w.cell? ⟨b,3,none⟩ = some v3 ∧ w.cell? ⟨b,4,none⟩ = some v4 ∧ w.cell? ⟨b,5,none⟩ = some v5 ∧ w.cell? ⟨b,6,none⟩ = some v6 ∧ w.cell? ⟨b,7,none⟩ = some v7 ∧ ∀ o,w.frozen? ⟨b,o,none⟩ = false:=by
 simp [World.cell?,World.frozen?,h]
end Go.Proofs.YtfgdhcemidlnfaaGreatDoor
