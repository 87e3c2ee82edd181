/- Parts of the proof: WfH GVaC. -/
import Derived.Test.YtfgdhcemidlnfaaGreatDoorWqi
import Derived.Test.YtfgdhcemidlnfaaGreatDoorWqg
import Derived.Test.YtfgdhcemidlnfaaGreatDoorWqb
import Derived.Shelf.Spec.SlicesInsert
import Derived.Lib.AppendZerosOnto
import Derived.Laws.NewBlocks
import Derived.Laws.CopyRow
import Derived.OwnWalk
import Derived.Maps.AppendAt
import Derived.Shelf.Spec.SearchS
import Derived.Shelf.Lays2
set_option linter.all false
set_option maxRecDepth 100000
set_option maxHeartbeats 8000000
namespace Go.Proofs.YtfgdhcemidlnfaaGreatDoor
open Go.RowKit Fo
theorem parts_all (S : Nat → Prop) : ∀ d,PartsC S d
 | 0 => fun w cs o h hok => hok.elim
 | d + 1 => fun w cs o h hok hS hl => by
   obtain ⟨p1,n1,c1,p2,n2,c2,rfl⟩:=h.shape
   by_cases h6 : o.kind = 6
   · exact parts_arr S d (parts_all S d) o hok h6 p1 p2 n1 c1 n2 c2 w h hS hl
   by_cases h7 : o.kind = 7
   · exact parts_dict S d (parts_all S d) o hok h7 p1 p2 n1 c1 n2 c2 w h hS hl
   have e : toksW (d + 1) o = leafW o:=by unfold toksW;rw [if_neg h6,if_neg h7]
   rw [e]
   by_cases h8 : o.kind = 8
   · exact parts_ref o d hok h8 p1 p2 n1 c1 n2 c2 w
   · exact parts_leaf o d hok h6 h7 h8 p1 p2 n1 c1 n2 c2 w
theorem r7text (S : Nat → Prop) (d : Nat) (w : World) (cs : List Value) (o : Ob) (h : ObjAt S d w cs o) (hsm : smallO d o) (hS : ∀ b, S b → b < w.heap.size) (hbk : okO 24 o → bulkO 24 o ≤ 2000000) :
   Calls Tryz.prog 58 #[.agg cs.toArray] w fun e w' => TextOut (writeW o) e ∧ Below w.heap.size w w':=by
 have HC:=Lh (fun (W : World) (hW : Below w.heap.size w W) => Check_in S d W cs o (h.kept (fun b h => hW.block b (hS b h)) d) hsm (fun b h => Nat.lt_of_lt_of_le (hS b h) hW.size) (check_in S 24 (by omega)))
 have HW:=Lh (fun (hok : okO 24 o) (W : World) (hW : Below w.heap.size w W) =>
   parts_all S 24 W cs o (obj_at_ok 24 d (h.kept (fun b h => hW.block b (hS b h)) d) hok) hok (fun b h => Nat.lt_of_lt_of_le (hS b h) hW.size) (by
     have h1:=toksW_le 24 o hok
     have h2:=lenK_len (toksW 24 o)
     have:=hbk hok
     omega))
 have HJ := Lib.hid (fun (hok : okO 24 o) (W : World) (v : Value) (hK : KeysAt (fun b => b < W.heap.size) W v (toksW 24 o)) => r4join (fun b => b < W.heap.size) v (toksW 24 o) W hK (fun b h => h) (by
     have h1:=toksW_le 24 o hok
     have h2:=lenK_len (toksW 24 o)
     have:=hbk hok
     omega) (by
     have h1:=textW_le hok
     unfold textW at h1
     have:=hbk hok
     omega) (fun x hx => by
     have h1:=toksW_le 24 o hok
     have h2:=lenK_mem hx
     have:=hbk hok
     omega))
 obtain ⟨p1,c1,p2,c2,rfl⟩:=h.form2
 unfold objCells at HC HW ⊢
 clear h hsm hS hbk
 obtain ⟨C,hC⟩ : ∃ C,checkB 24 o = C:=⟨_,rfl⟩
 have HR:=Lh (show writeW o = if C ≠ 0 then .bad C else if o.kind = 9 then .bad 10 else .good (textW o) by rw [← hC];rfl)
 have HOK:=Lh (fun (h0 : C = 0) (h9 : o.kind ≠ 9) => okO_of_check (o:=o) (by rw [hC,h0]) h9)
 rw [hC] at HC
 clear hC
 obtain ⟨w1,hw1⟩ : ∃ w1,w.alloc (.cells #[.int .i64 o.kind,.int .i64 o.n,.int .i64 o.g,.string ⟨o.s.toArray⟩,.slice p1 o.keys.length c1,.slice p2 o.kids.length c2] 26) = w1:=⟨_,rfl⟩
 have hb1 : Below w.heap.size w w1:=by rw [← hw1];exact bel
 have A1 : w1.heap[w.heap.size]? = some (.cells #[.int .i64 o.kind,.int .i64 o.n,.int .i64 o.g,.string ⟨o.s.toArray⟩,.slice p1 o.keys.length c1,.slice p2 o.kids.length c2] 26 (0,0)):=by rw [← hw1];exact heap_new_at _ _ _ rfl
 obtain ⟨s0,s1,s2,s3,s4,s5,_⟩:=six_of A1
 go_enter Tryz.func58,Tryz.ntmps58
 go_wp2_with fail
 refine (HC.out w1 hb1).mono ?_
 rintro e w2 ⟨rfl,hb2⟩
 have A2:=(hb2.block _ (lt_of_block A1)).trans A1
 have hbw2:=hb1.trans (hb2.mono hb1.size)
 clear s0 s1 s2 s3 s4 s5 A1 hw1 HC
 obtain ⟨s0,s1,s2,s3,s4,s5,_⟩:=six_of A2
 by_cases hC0 : C = 0
 · subst hC0
   by_cases h9 : o.kind = 9
   · have k9 : decide (o.kind = 9) = true:=by simp [h9]
     have k9' : (o.kind == 9) = true:=by simp [h9]
     have HR2:=Lh (show writeW o = .bad 10 by rw [HR.out];simp [h9])
     clear h9 HR HOK
     go_wp2
     go_ret2
     exact ⟨by rw [HR2.out];rfl,hbw2⟩
   · have k9 : decide (o.kind = 9) = false:=by simpa using h9
     have k9' : (o.kind == 9) = false:=by simpa using h9
     have HR2:=Lh (show writeW o = .good (textW o) by rw [HR.out];simp [h9])
     have HO:=Lh (HOK.out rfl h9)
     clear h9 HR HOK
     go_wp2_with fail
     refine (HW.out HO.out w2 hbw2).mono ?_
     rintro e w3 ⟨p4,q4,rfl,hr3,hb3⟩
     have hbw3:=hbw2.trans (hb3.mono hbw2.size)
     clear s0 s1 s2 s3 s4 s5 A2
     have HJ4:=Lh (HJ.out HO.out w3 _ ((keysAt_row hr3).weaken (fun b _ h => h)))
     go_wp2_with fail
     refine HJ4.out.mono ?_
     rintro e w5 ⟨rfl,hb5⟩
     have hbw5:=hbw3.trans (hb5.mono hbw3.size)
     go_wp2
     go_ret2
     exact ⟨by rw [HR2.out];rfl,hbw5⟩
 · have kc : (C != 0) = true:=by simpa using hC0
   have HR2:=Lh (show writeW o = .bad C by rw [HR.out,if_pos hC0])
   clear hC0 HR HOK
   go_wp2
   go_ret2
   exact ⟨by rw [HR2.out];rfl,hbw2⟩
theorem run_copy_rowk {P : Program} (k : Nat) (w : World) (dT sT ty elem : TypeId) (g o dLen dCap : Nat) (a : Addr) (sLen sCap : Nat) (cur : Array Value) (t : TypeId) (cs : List Value)
   (hu : P.underlying dT = some (.slice elem)) (hs : (P.info? elem).map (·.size) = some k)
   (hg : w.heap[g]? = some (.cells cur t (0,0))) (hn : cs.length = Nat.min sLen dLen * k)
   (hsrc : ∀ j v,cs[j]? = some v → w.cell? (a.add j) = some v) (hfit : o + cs.length ≤ cur.size) (h1 : ∀ v ∈ cs,v.oneCell' = true) :
   (Builtin.copy_ #[dT,sT] ty #[.slice (some ⟨g,o,none⟩) dLen dCap,.slice (some a) sLen sCap]).run P w =
     .ok (goInt (Nat.min sLen dLen)) (w.setRow g (cur.toList.take o ++ cs ++ cur.toList.drop (o + cs.length)).toArray):=by
 have hst:=run_storeCells_at P g o t cs 0 cur w hg (by simpa using hfit) h1
 cases hq : P.info? elem with
 | none => simp [hq] at hs
 | some i =>
   have hi : i.size = k:=by simpa [hq] using hs
   have hl:=run_firstCells_some (P:=P) w k (Nat.min sLen dLen) a sLen sCap cs hn hsrc
   simp only [Nat.add_zero] at hst
   simp [Builtin.copy_,run_underlying hu,Builtin.lenOf,sizeOf,typeInfo,hq,hi,hl,hst]
def layIn (xs ys : List Value) (p : Nat) : List Value:=xs.take p ++ ys ++ xs.drop p
theorem layIn_len (xs ys : List Value) (p : Nat) : (layIn xs ys p).length = xs.length + ys.length:=by
 unfold layIn;simp;omega
theorem setRow_grown (w : World) (g : Nat) (cs : Array Value) : w.grownBy (w.setRow g cs) (some g) :=
 ⟨rfl,rfl,rfl,by simp [World.setRow],fun k _ hk => setRow_other w g k cs (fun e => hk (by rw [e]))⟩
theorem shift_cells {cur xs ys : List Value} {p N k : Nat} (hx : cur.take N = xs) (hxl : xs.length = N) (hy : ys.length = k) (hp : p ≤ N) (hc : N + k ≤ cur.length) :
   ((cur.take (p + k) ++ xs.drop p ++ cur.drop (p + k + (xs.drop p).length)).take p ++ ys ++ (cur.take (p + k) ++ xs.drop p ++ cur.drop (p + k + (xs.drop p).length)).drop (p + k)).take (N + k) = layIn xs ys p:=by
 have h1 : (xs.drop p).length = N - p:=by simp [hxl]
 have h2 : (cur.take (p + k)).length = p + k:=by simp;omega
 have h3 : (cur.take (p + k) ++ xs.drop p ++ cur.drop (p + k + (xs.drop p).length)).take p = xs.take p:=by
   rw [List.append_assoc,List.take_append_of_le_length (by omega),List.take_take,← hx,List.take_take]
   congr 1;omega
 have h4 : (cur.take (p + k) ++ xs.drop p ++ cur.drop (p + k + (xs.drop p).length)).drop (p + k) = xs.drop p ++ cur.drop (p + k + (xs.drop p).length):=by
   rw [List.append_assoc,List.drop_append_of_le_length (by omega),List.drop_eq_nil_of_le (by omega),List.nil_append]
 rw [h3,h4]
 have h5 : (xs.take p).length = p:=by simp;omega
 have h6 : (xs.take p ++ ys ++ xs.drop p).length = N + k:=by simp;omega
 unfold layIn
 rw [← List.append_assoc,List.take_append_of_le_length (by omega),List.take_of_length_le (by omega)]
theorem grow_cells {xs ys zs : List Value} {p N k : Nat} (hxl : xs.length = N) (hy : ys.length = k) (hp : p ≤ N) (hz : N + k ≤ p + zs.length) :
   (((xs.take p ++ zs).take p ++ ys ++ (xs.take p ++ zs).drop (p + k)).take (p + k) ++ xs.drop p ++ ((xs.take p ++ zs).take p ++ ys ++ (xs.take p ++ zs).drop (p + k)).drop (p + k + (xs.drop p).length)).take (N + k) = layIn xs ys p:=by
 have h1 : (xs.take p).length = p:=by simp;omega
 have h2 : (xs.take p ++ zs).take p = xs.take p:=by rw [List.take_append_of_le_length (by omega),List.take_take];congr 1;omega
 rw [h2]
 have h3 : ((xs.take p ++ ys) ++ (xs.take p ++ zs).drop (p + k)).take (p + k) = xs.take p ++ ys:=by
   rw [List.take_append_of_le_length (by simp;omega),List.take_of_length_le (by simp;omega)]
 rw [h3]
 unfold layIn
 rw [List.take_append_of_le_length (by simp;omega),List.take_of_length_le (by simp;omega)]
def InsOut (B : Nat) (e : TypeId) (k n : Nat) (v : Value) (xs : List Value) (w : World) (r : Ending) (w' : World) : Prop :=
 ∃ v',r = .returned v' ∧ w'.ownsRow B e k v' (n + 1) xs ∧ w.grownBy w' v.ownBlock
theorem insOb_end (B : Nat) (v : Value) (n vb : Nat) (xs ys : List Value) (w : World) (h : w.ownsRow B 26 6 v n xs) (hB : B ≤ w.heap.size) (hn : n ≤ 8191)
   (hv : w.heap[vb]? = some (.cells ys.toArray 26 (0,0))) (hyl : ys.length = 6) (hy1 : ∀ u ∈ ys,u.oneCell' = true) :
   Calls Tryz.prog 143 #[v,.int .i64 n,.slice (some ⟨vb,0,none⟩) 1 1] w (InsOut B 26 6 n v (layIn xs ys (n * 6)) w):=by
 obtain ⟨i0,hi,hz0,hz1,hz2⟩:=info_parts Tryz.infoOb
 have hl : layIn xs ys (n * 6) = xs ++ ys:=by
   unfold layIn
   rw [List.take_of_length_le (by rw [h.1];exact Nat.le_refl _),List.drop_eq_nil_of_le (by rw [h.1];exact Nat.le_refl _),List.append_nil]
 rw [hl]
 have H:=Lh h
 have hsrc : ∀ j u,ys[j]? = some u → w.cell? ((⟨vb,0,none⟩ : Addr).add j) = some u:=fun j u hj => by
   rw [Addr.add_lit]
   simp [World.cell?,hv,hj]
 have HS:=Lh hsrc
 have HY:=Lh hy1
 clear hsrc hy1 hv hl
 rcases h.2 with ⟨rfl,rfl⟩ | ⟨g,cap,cur,rfl,hBg,hg,hnc,hcm,_⟩
 · clear h
   go_enter Tryz.func143,Tryz.ntmps143
   go_wp2_with (at_builtin;refine wpList_append_own _ rfl _ _ 24 rfl B 26 i0 (.agg #[.int .i64 0,.int .i64 0,.int .i64 0,.string ⟨#[]⟩,.slice none 0 0,.slice none 0 0]) 6 88 Tryz.underlying24 hi hz0 hz1 hz2 rfl (by decide) _ 0 xs rfl H.out ⟨vb,0,none⟩ 1 1 ys rfl (by omega) HS.out HY.out (by unfold maxLen;omega) (by omega) hB ?_;intro v' w' hown' hgrow _)
   go_ret
   exact ⟨v',rfl,hown',hgrow⟩
 · have hcn : n ≤ 9223372036854775807:=by omega
   have hcc : cap ≤ 9223372036854775807:=by unfold maxLen at hcm;omega
   clear h hg hcm
   go_enter Tryz.func143,Tryz.ntmps143
   go_wp2_with (at_builtin;refine wpList_append_own _ rfl _ _ 24 rfl B 26 i0 (.agg #[.int .i64 0,.int .i64 0,.int .i64 0,.string ⟨#[]⟩,.slice none 0 0,.slice none 0 0]) 6 88 Tryz.underlying24 hi hz0 hz1 hz2 rfl (by decide) _ n xs rfl H.out ⟨vb,0,none⟩ 1 1 ys rfl (by omega) HS.out HY.out (by unfold maxLen;omega) (by omega) hB ?_;intro v' w' hown' hgrow _)
   all_goals (go_ret;exact ⟨v',rfl,hown',hgrow⟩)
theorem insOb_shift (B g n cap i vb : Nat) (cur : Array Value) (xs ys : List Value) (w : World) (hBg : B ≤ g) (hg : w.heap[g]? = some (.cells cur 26 (0, 0))) (hxl : xs.length = n * 6) (hcs : cur.size = cap * 6) (hx : cur.toList.take (n * 6) = xs)
   (hroom : n + 1 ≤ cap) (hcm : cap ≤ maxLen) (hin : i < n) (hn : n ≤ 8191) (hvg : vb ≠ g)
   (hv : w.heap[vb]? = some (.cells ys.toArray 26 (0,0))) (hyl : ys.length = 6) (hy1 : ∀ u ∈ ys,u.oneCell' = true) (hx1 : ∀ u ∈ xs,u.oneCell' = true) :
   Calls Tryz.prog 143 #[.slice (some ⟨g,0,none⟩) n cap,.int .i64 i,.slice (some ⟨vb,0,none⟩) 1 1] w (InsOut B 26 6 n (.slice (some ⟨g,0,none⟩) n cap) (layIn xs ys (i * 6)) w):=by
 have hsz : (Tryz.prog.info? 26).map (·.size) = some 6:=by
   obtain ⟨i0,hi0,h0,h1,h2⟩:=info_parts Tryz.infoOb
   rw [hi0];simp [h1]
 have hov : ∀ o lb cb,(callFunc 187 #[.slice (some ⟨vb,0,none⟩) 1 1,.slice (some ⟨g,o,none⟩) lb cb]).run Tryz.prog w = .ok (.value (.bool false)) w:=fun o lb cb => by
   rw [run_callFunc_extern Tryz.func187 (by kernel_rfl) (by kernel_rfl) (by kernel_rfl) (e:=Extern.SlicesOverlaps.overlaps #[24,24] #[4]) (by kernel_rfl),
     Lib.run_overlaps_apart w 24 4 26 Tryz.underlying24 6 (fun w => Tryz.sizeOf26 w) ⟨vb,0,none⟩ ⟨g,o,none⟩ 1 1 lb cb hvg 26 26 6 (cap * 6)
       (by simp [World.shape?,hv,hyl]) (by simp [World.shape?,hg,hcs]) (by omega) (by simp [World.frozen?,hv]) (by simp [World.frozen?,hv])]
   rfl
 have hdl : (xs.drop (i * 6)).length = n * 6 - i * 6:=by rw [List.length_drop,hxl]
 have hgd : w.drew.heap[g]? = some (.cells cur 26 (0,0)):=hg
 obtain ⟨cur1,hcur1⟩ : ∃ cur1 : Array Value,(cur.toList.take ((i + 1) * 6) ++ xs.drop (i * 6) ++ cur.toList.drop ((i + 1) * 6 + (xs.drop (i * 6)).length)).toArray = cur1:=⟨_,rfl⟩
 have hc1s : cur1.size = cap * 6:=by
   rw [← hcur1];simp [hdl];omega
 have hcp1 : ∀ ty d1 d2 dl dc sl sc, d1 = (i + 1) * 6 → d2 = i * 6 → dl = n - i → sl = n + 1 - i →
     (Builtin.copy_ #[24,24] ty #[.slice (some ⟨g,d1,none⟩) dl dc,.slice (some ⟨g,d2,none⟩) sl sc]).run Tryz.prog w.drew = .ok (goInt (n - i : Nat)) (w.drew.setRow g cur1):=by
   rintro ty d1 d2 dl dc sl sc rfl rfl rfl rfl
   rw [← hcur1]
   have hm : Nat.min (n + 1 - i) (n - i) = n - i:=by simp only [Nat.min_def];split <;> omega
   have:=run_copy_rowk (P:=Tryz.prog) 6 w.drew 24 24 ty 26 g ((i + 1) * 6) (n - i) dc ⟨g,i * 6,none⟩ (n + 1 - i) sc cur 26 (xs.drop (i * 6)) Tryz.underlying24 hsz hgd (by rw [hm,hdl];omega)
     (fun j u hj => by
       rw [Addr.add_lit,List.getElem?_drop,← hx] at *
       rw [List.getElem?_take] at hj
       split at hj
       · simp only [World.cell?,hgd];simpa using hj
       · cases hj) (by rw [hdl,hcs];omega) (fun u hu => hx1 u (List.mem_of_mem_drop hu))
   rw [hm] at this
   exact this
 obtain ⟨W1,hW1⟩ : ∃ W1,w.drew.setRow g cur1 = W1:=⟨_,rfl⟩
 have hg1 : W1.heap[g]? = some (.cells cur1 26 (0,0)):=by rw [← hW1];exact setRow_heap _ _ _ _ _ _ hgd
 have hv1 : W1.heap[vb]? = some (.cells ys.toArray 26 (0,0)):=by rw [← hW1,setRow_other _ _ _ _ hvg];exact hv
 have hsg1 : w.grownBy W1 (some g):=by
   rw [← hW1]
   have h:=setRow_grown w.drew g cur1
   exact ⟨h.os,h.tape,h.output,h.size,h.block⟩
 obtain ⟨cur2,hcur2⟩ : ∃ cur2,(cur1.toList.take (i * 6) ++ ys ++ cur1.toList.drop (i * 6 + ys.length)).toArray = cur2:=⟨_,rfl⟩
 have hc2s : cur2.size = cap * 6:=by
   rw [← hcur2];simp [hyl,hc1s];omega
 have hcp2 : ∀ ty d1 dl dc, d1 = i * 6 → dl = n + 1 - i →
     (Builtin.copy_ #[24,24] ty #[.slice (some ⟨g,d1,none⟩) dl dc,.slice (some ⟨vb,0,none⟩) 1 1]).run Tryz.prog W1 = .ok (goInt (1 : Nat)) (W1.setRow g cur2):=by
   rintro ty d1 dl dc rfl rfl
   rw [← hcur2]
   have hm : Nat.min 1 (n + 1 - i) = 1:=by simp only [Nat.min_def];split <;> omega
   have:=run_copy_rowk (P:=Tryz.prog) 6 W1 24 24 ty 26 g (i * 6) (n + 1 - i) dc ⟨vb,0,none⟩ 1 1 cur1 26 ys Tryz.underlying24 hsz hg1 (by rw [hm,hyl])
     (fun j u hj => by
       rw [Addr.add_lit,Nat.zero_add]
       simp only [World.cell?,hv1];simpa using hj) (by rw [hyl,hc1s];omega) hy1
   rw [hm] at this
   exact this
 have hfin : cur2.toList.take ((n + 1) * 6) = layIn xs ys (i * 6):=by
   rw [← hcur2,← hcur1]
   have:=shift_cells (cur:=cur.toList) (xs:=xs) (ys:=ys) (p:=i * 6) (N:=n * 6) (k:=6) hx hxl hyl (by omega) (by simp only [Array.length_toList];omega)
   rw [show (n + 1) * 6 = n * 6 + 6 by omega,hyl,show (i + 1) * 6 = i * 6 + 6 by omega]
   simpa using this
 have hOUT : InsOut B 26 6 n (.slice (some ⟨g,0,none⟩) n cap) (layIn xs ys (i * 6)) w (.returned (.slice (some ⟨g,0,none⟩) (n + 1) cap)) (W1.setRow g cur2):=by
   refine ⟨_,rfl,⟨by rw [layIn_len,hxl,hyl];omega,.inr ⟨g,cap,cur2,rfl,hBg,setRow_heap _ _ _ _ _ _ hg1,hroom,hcm,hc2s,hfin⟩⟩,?_⟩
   have h2:=setRow_grown W1 g cur2
   exact ⟨h2.os.trans hsg1.os,h2.tape.trans hsg1.tape,h2.output.trans hsg1.output,Nat.le_trans hsg1.size h2.size,fun k hk hne => (h2.block k (Nat.lt_of_lt_of_le hk hsg1.size) hne).trans (hsg1.block k hk hne)⟩
 have HOUT:=Lh hOUT
 have HC1:=Lh hcp1
 have HC2:=Lh hcp2
 have hw1 : IntKind.i64.wrap ((i : Int) + 1) = (i : Int) + 1:=by rw [IntKind.wrap_i64];omega
 have hw2 : IntKind.i64.wrap ((n : Int) + 1) = (n : Int) + 1:=by rw [IntKind.wrap_i64];omega
 have htn : ((i : Int) + 1).toNat = i + 1:=by omega
 have htm : ((n : Int) + 1).toNat = n + 1:=by omega
 have hz2 : ¬ ((i : Int) = (n : Int)):=by omega
 have hz3 : ¬ (i = n):=by omega
 have hb1 : (0 : Int) ≤ (i : Int) + 1:=by omega
 have hb2 : (i : Int) + 1 ≤ (n : Int) + 1:=by omega
 have hb3 : ¬ (cap = i + 1):=by omega
 have hb4 : ¬ (cap = i):=by omega
 have hb5 : ¬ ((cap : Int) < (n : Int) + 1):=by omega
 have hb6 : (n : Int) + 1 ≤ (cap : Int):=by omega
 have hb7 : (i : Int) ≤ (n : Int) + 1:=by omega
 have hb8 : i ≤ n + 1:=by omega
 rw [hW1] at HC1
 have hC1:=HC1.out 3 ((i + 1) * 6) (i * 6) (n - i) (cap - (i + 1)) (n + 1 - i) (cap - i) rfl rfl rfl rfl
 have hC2:=HC2.out 3 (i * 6) (n + 1 - i) (cap - i) rfl rfl
 try simp only [Nat.mul_one] at hC1
 try simp only [Nat.mul_one] at hC2
 clear hOUT hcp1 hcp2 hfin hsg1 hc2s hcur2 hcur1 hc1s hg1 hv1 hx hxl hcs hgd hdl hsz hv hyl hy1 hx1 hW1 hg
 go_enter Tryz.func143,Tryz.ntmps143
 go_wp2_with (simp only [hov])
 go_region
 go_wp2
 go_ret
 exact HOUT.out
theorem insOb_grow (B g n cap i vb : Nat) (cur : Array Value) (xs ys : List Value) (w : World) (hBg : B ≤ g) (hB : B ≤ w.heap.size) (hg : w.heap[g]? = some (.cells cur 26 (0, 0))) (hxl : xs.length = n * 6) (hcs : cur.size = cap * 6) (hx : cur.toList.take (n * 6) = xs)
   (hnc : n ≤ cap) (hroom : cap < n + 1) (hin : i < n) (hn : n ≤ 8191)
   (hv : w.heap[vb]? = some (.cells ys.toArray 26 (0,0))) (hyl : ys.length = 6) (hy1 : ∀ u ∈ ys,u.oneCell' = true) (hx1 : ∀ u ∈ xs,u.oneCell' = true) :
   Calls Tryz.prog 143 #[.slice (some ⟨g,0,none⟩) n cap,.int .i64 i,.slice (some ⟨vb,0,none⟩) 1 1] w (InsOut B 26 6 n (.slice (some ⟨g,0,none⟩) n cap) (layIn xs ys (i * 6)) w):=by
 obtain ⟨i0,hi0,hz0,hzs,hzb⟩:=info_parts Tryz.infoOb
 have hsz : (Tryz.prog.info? 26).map (·.size) = some 6:=by rw [hi0];simp [hzs]
 have hgw : g < w.heap.size:=(Array.getElem?_eq_some_iff.1 hg).1
 have hvw : vb < w.heap.size:=(Array.getElem?_eq_some_iff.1 hv).1
 have hgd : w.drew.heap[g]? = some (.cells cur 26 (0,0)):=hg
 have htl : (xs.take (i * 6)).length = i * 6:=by rw [List.length_take];omega
 have hdl : (xs.drop (i * 6)).length = n * 6 - i * 6:=by rw [List.length_drop,hxl]
 have hxc : ∀ j v,xs[j]? = some v → cur.toList[j]? = some v:=fun j v hj => by
   rw [← hx,List.getElem?_take] at hj
   split at hj
   · exact hj
   · cases hj
 have hold : (Builtin.firstCells i0.size i (.slice (some ⟨g,0,none⟩) i cap)).run Tryz.prog w.drew = .ok (xs.take (i * 6)).toArray w.drew:=by
   rw [hzs]
   exact run_firstCells_some w.drew 6 i ⟨g,0,none⟩ i cap (xs.take (i * 6)) htl (fun j v hj => by
     rw [Addr.add_lit,Nat.zero_add]
     rw [List.getElem?_take] at hj
     split at hj
     · have:=hxc j v hj
       simp only [World.cell?,hgd]
       simpa using this
     · cases hj)
 have hkk : (n : Int) + 1 - (i : Int) = ((n + 1 - i : Nat) : Int):=by omega
 have hik : i + (n + 1 - i) = n + 1:=by omega
 obtain ⟨G,hG⟩ : ∃ G,G = grownCap w (n + 1) cap 26:=⟨_,rfl⟩
 have hGn : n + 1 ≤ G:=by rw [hG];exact grownCap_ge w _ _ _
 have hGm : G ≤ maxLen:=by rw [hG];exact grownCap_le_maxLen w _ _ _ (by unfold maxLen;omega)
 obtain ⟨zs,hzs'⟩ : ∃ zs : List Value,zs = (Builtin.zeroCells ((.agg #[.int .i64 0,.int .i64 0,.int .i64 0,.string ⟨#[]⟩,.slice none 0 0,.slice none 0 0]) : Value).cells (n + 1 - i) ++ Builtin.zeroCells ((.agg #[.int .i64 0,.int .i64 0,.int .i64 0,.string ⟨#[]⟩,.slice none 0 0,.slice none 0 0]) : Value).cells (G - (n + 1))).toList:=⟨_,rfl⟩
 have hzl : zs.length = (G - i) * 6:=by
   rw [hzs']
   simp [Builtin.zeroCells,Value.cells]
   omega
 obtain ⟨ROW,hROW⟩ : ∃ ROW : Array Value,ROW = (xs.take (i * 6) ++ zs).toArray:=⟨_,rfl⟩
 have hrz : ∀ ty, (Builtin.append_ #[24, 3] ty #[.slice (some ⟨g, 0, none⟩) i cap, .int .i64 ((n : Int) + 1 - (i : Int))]).run Tryz.prog w =
     .ok (.slice (some ⟨w.heap.size,0,none⟩) (n + 1) G) (w.drew.alloc (.cells ROW 26)):=fun ty => by
   have h:=Lib.run_append_grow_zeros w 24 3 ty 26 i0 _ .i64 .i64 Tryz.underlying24 Tryz.underlying3 hi0 hz0 (some ⟨g,0,none⟩) i cap (xs.take (i * 6)) hold (n + 1 - i) (by omega) (by omega) (by omega) (by omega) (by rw [hzb];omega) (by rw [hzb,hik];exact growslice_fits hroom (by omega))
   rw [hik,← hG] at h
   rw [hkk,h,hROW,hzs']
   congr 3
   simp
 obtain ⟨N,hN⟩ : ∃ N,N = w.heap.size:=⟨_,rfl⟩
 rw [← hN] at hrz
 have hgN : g ≠ N:=by omega
 have hvN : vb ≠ N:=by omega
 have hRl : ROW.size = G * 6:=by rw [hROW];simp [htl,hzl];omega
 obtain ⟨curA,hcurA⟩ : ∃ curA,curA = (ROW.toList.take (i * 6) ++ ys ++ ROW.toList.drop (i * 6 + ys.length)).toArray:=⟨_,rfl⟩
 have hAl : curA.size = G * 6:=by rw [hcurA];simp [hyl,hRl];omega
 obtain ⟨curB,hcurB⟩ : ∃ curB,curB = (curA.toList.take ((i + 1) * 6) ++ xs.drop (i * 6) ++ curA.toList.drop ((i + 1) * 6 + (xs.drop (i * 6)).length)).toArray:=⟨_,rfl⟩
 have hBl : curB.size = G * 6:=by rw [hcurB];simp [hdl,hAl];omega
 have hnew : (w.alloc (.cells ROW 26)).heap[N]? = some (.cells ROW 26 (0,0)):=heap_new_at _ _ _ hN
 have hold' : ∀ k,k < w.heap.size → (w.alloc (.cells ROW 26)).heap[k]? = w.heap[k]?:=fun k hk => ((Below.refl w.heap.size w).alloc (Nat.le_refl _) _).block k hk
 have hcpA : ∀ (W : World) (ty : TypeId) (d1 dl dc : Nat), W.heap = (w.alloc (.cells ROW 26)).heap → d1 = i * 6 → dl = n + 1 - i →
     (Builtin.copy_ #[24,24] ty #[.slice (some ⟨N,d1,none⟩) dl dc,.slice (some ⟨vb,0,none⟩) 1 1]).run Tryz.prog W = .ok (goInt (1 : Nat)) (W.setRow N curA):=by
   rintro W ty d1 dl dc hW rfl rfl
   rw [hcurA]
   have hm : Nat.min 1 (n + 1 - i) = 1:=by simp only [Nat.min_def];split <;> omega
   have:=run_copy_rowk (P:=Tryz.prog) 6 W 24 24 ty 26 N (i * 6) (n + 1 - i) dc ⟨vb,0,none⟩ 1 1 ROW 26 ys Tryz.underlying24 hsz (by rw [hW];exact hnew) (by rw [hm,hyl])
     (fun j u hj => by
       rw [Addr.add_lit,Nat.zero_add]
       simp only [World.cell?,hW,hold' vb hvw,hv];simpa using hj) (by rw [hyl,hRl];omega) hy1
   rw [hm] at this
   exact this
 have hcpB : ∀ (W : World) (ty : TypeId) (d1 d2 dl dc sl sc : Nat), W.heap = ((w.alloc (.cells ROW 26)).setRow N curA).heap → d1 = (i + 1) * 6 → d2 = i * 6 → dl = n + 1 - (i + 1) → sl = n - i →
     (Builtin.copy_ #[24,24] ty #[.slice (some ⟨N,d1,none⟩) dl dc,.slice (some ⟨g,d2,none⟩) sl sc]).run Tryz.prog W = .ok (goInt (n - i : Nat)) (W.setRow N curB):=by
   rintro W ty d1 d2 dl dc sl sc hW rfl rfl rfl rfl
   rw [hcurB]
   have hm : Nat.min (n - i) (n + 1 - (i + 1)) = n - i:=by simp only [Nat.min_def];split <;> omega
   have:=run_copy_rowk (P:=Tryz.prog) 6 W 24 24 ty 26 N ((i + 1) * 6) (n + 1 - (i + 1)) dc ⟨g,i * 6,none⟩ (n - i) sc curA 26 (xs.drop (i * 6)) Tryz.underlying24 hsz (by rw [hW];exact setRow_heap _ _ _ _ _ _ hnew) (by rw [hm,hdl];omega)
     (fun j u hj => by
       rw [Addr.add_lit]
       rw [List.getElem?_drop] at hj
       have:=hxc _ u hj
       simp only [World.cell?,hW,setRow_other _ _ _ _ hgN,hold' g hgw,hg]
       simpa using this) (by rw [hdl,hAl];omega) (fun u hu => hx1 u (List.mem_of_mem_drop hu))
   rw [hm] at this
   exact this
 have hfin : curB.toList.take ((n + 1) * 6) = layIn xs ys (i * 6):=by
   have:=grow_cells (xs:=xs) (ys:=ys) (zs:=zs) (p:=i * 6) (N:=n * 6) (k:=6) hxl hyl (by omega) (by rw [hzl];omega)
   rw [hcurB,hcurA,hROW,show (n + 1) * 6 = n * 6 + 6 by omega,hyl,show (i + 1) * 6 = i * 6 + 6 by omega]
   simpa using this
 have hfh : (((((w.alloc (.cells ROW 26)).drew).setRow N curA).drew).setRow N curB).heap[N]? = some (.cells curB 26 (0,0)):=setRow_heap _ _ _ _ _ _ (setRow_heap (w.alloc (.cells ROW 26)).drew N ROW _ _ _ hnew)
 have hOUT : InsOut B 26 6 n (.slice (some ⟨g,0,none⟩) n cap) (layIn xs ys (i * 6)) w (.returned (.slice (some ⟨N,0,none⟩) (n + 1) G)) (((((w.alloc (.cells ROW 26)).drew).setRow N curA).drew).setRow N curB):=by
   refine ⟨_,rfl,⟨by rw [layIn_len,hxl,hyl];omega,.inr ⟨N,G,curB,rfl,by omega,hfh,hGn,hGm,hBl,hfin⟩⟩,rfl,rfl,rfl,by simp [World.setRow],fun k hk _ => ?_⟩
   rw [setRow_other _ _ _ _ (by omega)]
   show ((w.alloc (.cells ROW 26)).drew.setRow N curA).heap[k]? = _
   rw [setRow_other _ _ _ _ (by omega)]
   exact hold' k hk
 have HOUT:=Lh hOUT
 have HCA:=Lh hcpA
 have HCB:=Lh hcpB
 have HRZ:=Lh hrz
 have hw1 : IntKind.i64.wrap ((i : Int) + 1) = (i : Int) + 1:=by rw [IntKind.wrap_i64];omega
 have hw2 : IntKind.i64.wrap ((n : Int) + 1) = (n : Int) + 1:=by rw [IntKind.wrap_i64];omega
 have hw3 : IntKind.i64.wrap ((n : Int) + 1 - (i : Int)) = (n : Int) + 1 - (i : Int):=by rw [IntKind.wrap_i64];omega
 have htn : ((i : Int) + 1).toNat = i + 1:=by omega
 have hz2 : ¬ ((i : Int) = (n : Int)):=by omega
 have hz3 : ¬ (i = n):=by omega
 have hb1 : (0 : Int) ≤ (i : Int) + 1:=by omega
 have hb3 : (i : Int) ≤ (n : Int):=by omega
 have hb4 : ¬ (cap = i):=by omega
 have hb5 : (cap : Int) < (n : Int) + 1:=by omega
 have hb6 : ¬ (G = i):=by omega
 have hb7 : ¬ (G = i + 1):=by omega
 have hb8 : i ≤ n:=by omega
 have hG63 : G ≤ 9223372036854775807:=by unfold maxLen at hGm;omega
 obtain ⟨W2,hW2⟩ : ∃ W2,(w.alloc (.cells ROW 26)).drew.setRow N curA = W2:=⟨_,rfl⟩
 have hcA:=hcpA (w.alloc (.cells ROW 26)).drew 3 (i * 6) (n + 1 - i) (G - i) rfl rfl rfl
 have hcB:=hcpB W2.drew 3 ((i + 1) * 6) (i * 6) (n + 1 - (i + 1)) (G - (i + 1)) (n - i) (cap - i) (by rw [← hW2];rfl) rfl rfl rfl rfl
 rw [hW2] at hcA HOUT
 rw [show n + 1 - (i + 1) = n - i by omega] at hcB
 subst hN
 try simp only [Nat.mul_one] at hcA
 try simp only [Nat.mul_one] at hcB
 clear hW2
 clear hOUT hcpA hcpB hrz hfin hfh hBl hcurB hAl hcurA hnew hold' hRl hROW hzl hzs' hold hxc hdl htl hgd hsz hv hyl hy1 hx1 hxl hx hcs hG hGm hg hkk
 go_enter Tryz.func143,Tryz.ntmps143
 go_wp2_with (at_builtin;refine Lib.wpList_append_run _ rfl _ _ _ _ rfl _ _ rfl rfl _ _ (HRZ.out _) ?_)
 go_region
 go_wp2
 go_ret
 exact HOUT.out
theorem insOb_in (B : Nat) (v : Value) (n i vb : Nat) (xs ys : List Value) (w : World) (h : w.ownsRow B 26 6 v n xs) (hB : B ≤ w.heap.size) (hi : i ≤ n) (hn : n ≤ 8191) (hvg : v.ownBlock ≠ some vb)
   (hv : w.heap[vb]? = some (.cells ys.toArray 26 (0,0))) (hyl : ys.length = 6) (hy1 : ∀ u ∈ ys,u.oneCell' = true) (hx1 : ∀ u ∈ xs,u.oneCell' = true) :
   Calls Tryz.prog 143 #[v,.int .i64 i,.slice (some ⟨vb,0,none⟩) 1 1] w (InsOut B 26 6 n v (layIn xs ys (i * 6)) w):=by
 rcases Nat.lt_or_ge i n with hin | hin
 · obtain ⟨hxl,⟨_,rfl⟩ | ⟨g,cap,cur,rfl,hBg,hg,hnc,hcm,hcs,hx⟩⟩:=h
   · omega
   · have hne : vb ≠ g:=fun e => hvg (by rw [e];rfl)
     rcases Nat.lt_or_ge cap (n + 1) with hc | hc
     · exact insOb_grow B g n cap i vb cur xs ys w hBg hB hg hxl hcs hx hnc hc hin hn hv hyl hy1 hx1
     · exact insOb_shift B g n cap i vb cur xs ys w hBg hg hxl hcs hx hc hcm hin hn hne hv hyl hy1 hx1
 · obtain rfl : i = n:=by omega
   exact insOb_end B v i vb xs ys w h hB hn hv hyl hy1
theorem Tryz.infoSt : (Tryz.prog.info? 9).map (fun i => (i.zero,i.size,i.bytes)) = some (some (.string ⟨#[]⟩),1,16):=by kernel_rfl
theorem insSt_end (B : Nat) (v : Value) (n vb : Nat) (xs ys : List Value) (w : World) (h : w.ownsRow B 9 1 v n xs) (hB : B ≤ w.heap.size) (hn : n ≤ 8191)
   (hv : w.heap[vb]? = some (.cells ys.toArray 9 (0,0))) (hyl : ys.length = 1) (hy1 : ∀ u ∈ ys,u.oneCell' = true) :
   Calls Tryz.prog 142 #[v,.int .i64 n,.slice (some ⟨vb,0,none⟩) 1 1] w (InsOut B 9 1 n v (layIn xs ys (n * 1)) w):=by
 obtain ⟨i0,hi,hz0,hz1,hz2⟩:=info_parts Tryz.infoSt
 have hl : layIn xs ys (n * 1) = xs ++ ys:=by
   unfold layIn
   rw [List.take_of_length_le (by rw [h.1];exact Nat.le_refl _),List.drop_eq_nil_of_le (by rw [h.1];exact Nat.le_refl _),List.append_nil]
 rw [hl]
 have H:=Lh h
 have hsrc : ∀ j u,ys[j]? = some u → w.cell? ((⟨vb,0,none⟩ : Addr).add j) = some u:=fun j u hj => by
   rw [Addr.add_lit]
   simp [World.cell?,hv,hj]
 have HS:=Lh hsrc
 have HY:=Lh hy1
 clear hsrc hy1 hv hl
 rcases h.2 with ⟨rfl,rfl⟩ | ⟨g,cap,cur,rfl,hBg,hg,hnc,hcm,_⟩
 · clear h
   go_enter Tryz.func142,Tryz.ntmps142
   go_wp2_with (at_builtin;refine wpList_append_own _ rfl _ _ 23 rfl B 9 i0 (.string ⟨#[]⟩) 1 16 Tryz.underlying23 hi hz0 hz1 hz2 rfl (by decide) _ 0 xs rfl H.out ⟨vb,0,none⟩ 1 1 ys rfl (by omega) HS.out HY.out (by unfold maxLen;omega) (by omega) hB ?_;intro v' w' hown' hgrow _)
   go_ret
   exact ⟨v',rfl,hown',hgrow⟩
 · have hcn : n ≤ 9223372036854775807:=by omega
   have hcc : cap ≤ 9223372036854775807:=by unfold maxLen at hcm;omega
   clear h hg hcm
   go_enter Tryz.func142,Tryz.ntmps142
   go_wp2_with (at_builtin;refine wpList_append_own _ rfl _ _ 23 rfl B 9 i0 (.string ⟨#[]⟩) 1 16 Tryz.underlying23 hi hz0 hz1 hz2 rfl (by decide) _ n xs rfl H.out ⟨vb,0,none⟩ 1 1 ys rfl (by omega) HS.out HY.out (by unfold maxLen;omega) (by omega) hB ?_;intro v' w' hown' hgrow _)
   all_goals (go_ret;exact ⟨v',rfl,hown',hgrow⟩)
theorem insSt_shift (B g n cap i vb : Nat) (cur : Array Value) (xs ys : List Value) (w : World) (hBg : B ≤ g) (hg : w.heap[g]? = some (.cells cur 9 (0, 0))) (hxl : xs.length = n * 1) (hcs : cur.size = cap * 1) (hx : cur.toList.take (n * 1) = xs)
   (hroom : n + 1 ≤ cap) (hcm : cap ≤ maxLen) (hin : i < n) (hn : n ≤ 8191) (hvg : vb ≠ g)
   (hv : w.heap[vb]? = some (.cells ys.toArray 9 (0,0))) (hyl : ys.length = 1) (hy1 : ∀ u ∈ ys,u.oneCell' = true) (hx1 : ∀ u ∈ xs,u.oneCell' = true) :
   Calls Tryz.prog 142 #[.slice (some ⟨g,0,none⟩) n cap,.int .i64 i,.slice (some ⟨vb,0,none⟩) 1 1] w (InsOut B 9 1 n (.slice (some ⟨g,0,none⟩) n cap) (layIn xs ys (i * 1)) w):=by
 have hsz : (Tryz.prog.info? 9).map (·.size) = some 1:=by
   obtain ⟨i0,hi0,h0,h1,h2⟩:=info_parts Tryz.infoSt
   rw [hi0];simp [h1]
 have hov : ∀ o lb cb,(callFunc 185 #[.slice (some ⟨vb,0,none⟩) 1 1,.slice (some ⟨g,o,none⟩) lb cb]).run Tryz.prog w = .ok (.value (.bool false)) w:=fun o lb cb => by
   rw [run_callFunc_extern Tryz.func185 (by kernel_rfl) (by kernel_rfl) (by kernel_rfl) (e:=Extern.SlicesOverlaps.overlaps #[23,23] #[4]) (by kernel_rfl),
     Lib.run_overlaps_apart w 23 4 9 Tryz.underlying23 1 (fun w => Tryz.sizeOf9 w) ⟨vb,0,none⟩ ⟨g,o,none⟩ 1 1 lb cb hvg 9 9 1 (cap * 1)
       (by simp [World.shape?,hv,hyl]) (by simp [World.shape?,hg,hcs]) (by omega) (by simp [World.frozen?,hv]) (by simp [World.frozen?,hv])]
   rfl
 have hdl : (xs.drop (i * 1)).length = n * 1 - i * 1:=by rw [List.length_drop,hxl]
 have hgd : w.drew.heap[g]? = some (.cells cur 9 (0,0)):=hg
 obtain ⟨cur1,hcur1⟩ : ∃ cur1 : Array Value,(cur.toList.take ((i + 1) * 1) ++ xs.drop (i * 1) ++ cur.toList.drop ((i + 1) * 1 + (xs.drop (i * 1)).length)).toArray = cur1:=⟨_,rfl⟩
 have hc1s : cur1.size = cap * 1:=by
   rw [← hcur1];simp [hdl];omega
 have hcp1 : ∀ ty d1 d2 dl dc sl sc, d1 = (i + 1) * 1 → d2 = i * 1 → dl = n - i → sl = n + 1 - i →
     (Builtin.copy_ #[23,23] ty #[.slice (some ⟨g,d1,none⟩) dl dc,.slice (some ⟨g,d2,none⟩) sl sc]).run Tryz.prog w.drew = .ok (goInt (n - i : Nat)) (w.drew.setRow g cur1):=by
   rintro ty d1 d2 dl dc sl sc rfl rfl rfl rfl
   rw [← hcur1]
   have hm : Nat.min (n + 1 - i) (n - i) = n - i:=by simp only [Nat.min_def];split <;> omega
   have:=run_copy_rowk (P:=Tryz.prog) 1 w.drew 23 23 ty 9 g ((i + 1) * 1) (n - i) dc ⟨g,i * 1,none⟩ (n + 1 - i) sc cur 9 (xs.drop (i * 1)) Tryz.underlying23 hsz hgd (by rw [hm,hdl];omega)
     (fun j u hj => by
       rw [Addr.add_lit,List.getElem?_drop,← hx] at *
       rw [List.getElem?_take] at hj
       split at hj
       · simp only [World.cell?,hgd];simpa using hj
       · cases hj) (by rw [hdl,hcs];omega) (fun u hu => hx1 u (List.mem_of_mem_drop hu))
   rw [hm] at this
   exact this
 obtain ⟨W1,hW1⟩ : ∃ W1,w.drew.setRow g cur1 = W1:=⟨_,rfl⟩
 have hg1 : W1.heap[g]? = some (.cells cur1 9 (0,0)):=by rw [← hW1];exact setRow_heap _ _ _ _ _ _ hgd
 have hv1 : W1.heap[vb]? = some (.cells ys.toArray 9 (0,0)):=by rw [← hW1,setRow_other _ _ _ _ hvg];exact hv
 have hsg1 : w.grownBy W1 (some g):=by
   rw [← hW1]
   have h:=setRow_grown w.drew g cur1
   exact ⟨h.os,h.tape,h.output,h.size,h.block⟩
 obtain ⟨cur2,hcur2⟩ : ∃ cur2,(cur1.toList.take (i * 1) ++ ys ++ cur1.toList.drop (i * 1 + ys.length)).toArray = cur2:=⟨_,rfl⟩
 have hc2s : cur2.size = cap * 1:=by
   rw [← hcur2];simp [hyl,hc1s];omega
 have hcp2 : ∀ ty d1 dl dc, d1 = i * 1 → dl = n + 1 - i →
     (Builtin.copy_ #[23,23] ty #[.slice (some ⟨g,d1,none⟩) dl dc,.slice (some ⟨vb,0,none⟩) 1 1]).run Tryz.prog W1 = .ok (goInt (1 : Nat)) (W1.setRow g cur2):=by
   rintro ty d1 dl dc rfl rfl
   rw [← hcur2]
   have hm : Nat.min 1 (n + 1 - i) = 1:=by simp only [Nat.min_def];split <;> omega
   have:=run_copy_rowk (P:=Tryz.prog) 1 W1 23 23 ty 9 g (i * 1) (n + 1 - i) dc ⟨vb,0,none⟩ 1 1 cur1 9 ys Tryz.underlying23 hsz hg1 (by rw [hm,hyl])
     (fun j u hj => by
       rw [Addr.add_lit,Nat.zero_add]
       simp only [World.cell?,hv1];simpa using hj) (by rw [hyl,hc1s];omega) hy1
   rw [hm] at this
   exact this
 have hfin : cur2.toList.take ((n + 1) * 1) = layIn xs ys (i * 1):=by
   rw [← hcur2,← hcur1]
   have:=shift_cells (cur:=cur.toList) (xs:=xs) (ys:=ys) (p:=i * 1) (N:=n * 1) (k:=1) hx hxl hyl (by omega) (by simp only [Array.length_toList];omega)
   rw [show (n + 1) * 1 = n * 1 + 1 by omega,hyl,show (i + 1) * 1 = i * 1 + 1 by omega]
   simpa using this
 have hOUT : InsOut B 9 1 n (.slice (some ⟨g,0,none⟩) n cap) (layIn xs ys (i * 1)) w (.returned (.slice (some ⟨g,0,none⟩) (n + 1) cap)) (W1.setRow g cur2):=by
   refine ⟨_,rfl,⟨by rw [layIn_len,hxl,hyl];omega,.inr ⟨g,cap,cur2,rfl,hBg,setRow_heap _ _ _ _ _ _ hg1,hroom,hcm,hc2s,hfin⟩⟩,?_⟩
   have h2:=setRow_grown W1 g cur2
   exact ⟨h2.os.trans hsg1.os,h2.tape.trans hsg1.tape,h2.output.trans hsg1.output,Nat.le_trans hsg1.size h2.size,fun k hk hne => (h2.block k (Nat.lt_of_lt_of_le hk hsg1.size) hne).trans (hsg1.block k hk hne)⟩
 have HOUT:=Lh hOUT
 have HC1:=Lh hcp1
 have HC2:=Lh hcp2
 have hw1 : IntKind.i64.wrap ((i : Int) + 1) = (i : Int) + 1:=by rw [IntKind.wrap_i64];omega
 have hw2 : IntKind.i64.wrap ((n : Int) + 1) = (n : Int) + 1:=by rw [IntKind.wrap_i64];omega
 have htn : ((i : Int) + 1).toNat = i + 1:=by omega
 have htm : ((n : Int) + 1).toNat = n + 1:=by omega
 have hz2 : ¬ ((i : Int) = (n : Int)):=by omega
 have hz3 : ¬ (i = n):=by omega
 have hb1 : (0 : Int) ≤ (i : Int) + 1:=by omega
 have hb2 : (i : Int) + 1 ≤ (n : Int) + 1:=by omega
 have hb3 : ¬ (cap = i + 1):=by omega
 have hb4 : ¬ (cap = i):=by omega
 have hb5 : ¬ ((cap : Int) < (n : Int) + 1):=by omega
 have hb6 : (n : Int) + 1 ≤ (cap : Int):=by omega
 have hb7 : (i : Int) ≤ (n : Int) + 1:=by omega
 have hb8 : i ≤ n + 1:=by omega
 rw [hW1] at HC1
 have hC1:=HC1.out 3 ((i + 1) * 1) (i * 1) (n - i) (cap - (i + 1)) (n + 1 - i) (cap - i) rfl rfl rfl rfl
 have hC2:=HC2.out 3 (i * 1) (n + 1 - i) (cap - i) rfl rfl
 try simp only [Nat.mul_one] at hC1
 try simp only [Nat.mul_one] at hC2
 clear hOUT hcp1 hcp2 hfin hsg1 hc2s hcur2 hcur1 hc1s hg1 hv1 hx hxl hcs hgd hdl hsz hv hyl hy1 hx1 hW1 hg
 go_enter Tryz.func142,Tryz.ntmps142
 go_wp2_with (simp only [hov])
 go_region
 go_wp2
 go_ret
 exact HOUT.out
theorem insSt_grow (B g n cap i vb : Nat) (cur : Array Value) (xs ys : List Value) (w : World) (hBg : B ≤ g) (hB : B ≤ w.heap.size) (hg : w.heap[g]? = some (.cells cur 9 (0, 0))) (hxl : xs.length = n * 1) (hcs : cur.size = cap * 1) (hx : cur.toList.take (n * 1) = xs)
   (hnc : n ≤ cap) (hroom : cap < n + 1) (hin : i < n) (hn : n ≤ 8191)
   (hv : w.heap[vb]? = some (.cells ys.toArray 9 (0,0))) (hyl : ys.length = 1) (hy1 : ∀ u ∈ ys,u.oneCell' = true) (hx1 : ∀ u ∈ xs,u.oneCell' = true) :
   Calls Tryz.prog 142 #[.slice (some ⟨g,0,none⟩) n cap,.int .i64 i,.slice (some ⟨vb,0,none⟩) 1 1] w (InsOut B 9 1 n (.slice (some ⟨g,0,none⟩) n cap) (layIn xs ys (i * 1)) w):=by
 obtain ⟨i0,hi0,hz0,hzs,hzb⟩:=info_parts Tryz.infoSt
 have hsz : (Tryz.prog.info? 9).map (·.size) = some 1:=by rw [hi0];simp [hzs]
 have hgw : g < w.heap.size:=(Array.getElem?_eq_some_iff.1 hg).1
 have hvw : vb < w.heap.size:=(Array.getElem?_eq_some_iff.1 hv).1
 have hgd : w.drew.heap[g]? = some (.cells cur 9 (0,0)):=hg
 have htl : (xs.take (i * 1)).length = i * 1:=by rw [List.length_take];omega
 have hdl : (xs.drop (i * 1)).length = n * 1 - i * 1:=by rw [List.length_drop,hxl]
 have hxc : ∀ j v,xs[j]? = some v → cur.toList[j]? = some v:=fun j v hj => by
   rw [← hx,List.getElem?_take] at hj
   split at hj
   · exact hj
   · cases hj
 have hold : (Builtin.firstCells i0.size i (.slice (some ⟨g,0,none⟩) i cap)).run Tryz.prog w.drew = .ok (xs.take (i * 1)).toArray w.drew:=by
   rw [hzs]
   exact run_firstCells_some w.drew 1 i ⟨g,0,none⟩ i cap (xs.take (i * 1)) htl (fun j v hj => by
     rw [Addr.add_lit,Nat.zero_add]
     rw [List.getElem?_take] at hj
     split at hj
     · have:=hxc j v hj
       simp only [World.cell?,hgd]
       simpa using this
     · cases hj)
 have hkk : (n : Int) + 1 - (i : Int) = ((n + 1 - i : Nat) : Int):=by omega
 have hik : i + (n + 1 - i) = n + 1:=by omega
 obtain ⟨G,hG⟩ : ∃ G,G = grownCap w (n + 1) cap 9:=⟨_,rfl⟩
 have hGn : n + 1 ≤ G:=by rw [hG];exact grownCap_ge w _ _ _
 have hGm : G ≤ maxLen:=by rw [hG];exact grownCap_le_maxLen w _ _ _ (by unfold maxLen;omega)
 obtain ⟨zs,hzs'⟩ : ∃ zs : List Value,zs = (Builtin.zeroCells ((.string ⟨#[]⟩) : Value).cells (n + 1 - i) ++ Builtin.zeroCells ((.string ⟨#[]⟩) : Value).cells (G - (n + 1))).toList:=⟨_,rfl⟩
 have hzl : zs.length = (G - i) * 1:=by
   rw [hzs']
   simp [Builtin.zeroCells,Value.cells]
   omega
 obtain ⟨ROW,hROW⟩ : ∃ ROW : Array Value,ROW = (xs.take (i * 1) ++ zs).toArray:=⟨_,rfl⟩
 have hrz : ∀ ty, (Builtin.append_ #[23, 3] ty #[.slice (some ⟨g, 0, none⟩) i cap, .int .i64 ((n : Int) + 1 - (i : Int))]).run Tryz.prog w =
     .ok (.slice (some ⟨w.heap.size,0,none⟩) (n + 1) G) (w.drew.alloc (.cells ROW 9)):=fun ty => by
   have h:=Lib.run_append_grow_zeros w 23 3 ty 9 i0 _ .i64 .i64 Tryz.underlying23 Tryz.underlying3 hi0 hz0 (some ⟨g,0,none⟩) i cap (xs.take (i * 1)) hold (n + 1 - i) (by omega) (by omega) (by omega) (by omega) (by rw [hzb];omega) (by rw [hzb,hik];exact growslice_fits hroom (by omega))
   rw [hik,← hG] at h
   rw [hkk,h,hROW,hzs']
   congr 3
   simp
 obtain ⟨N,hN⟩ : ∃ N,N = w.heap.size:=⟨_,rfl⟩
 rw [← hN] at hrz
 have hgN : g ≠ N:=by omega
 have hvN : vb ≠ N:=by omega
 have hRl : ROW.size = G * 1:=by rw [hROW];simp [htl,hzl];omega
 obtain ⟨curA,hcurA⟩ : ∃ curA,curA = (ROW.toList.take (i * 1) ++ ys ++ ROW.toList.drop (i * 1 + ys.length)).toArray:=⟨_,rfl⟩
 have hAl : curA.size = G * 1:=by rw [hcurA];simp [hyl,hRl];omega
 obtain ⟨curB,hcurB⟩ : ∃ curB,curB = (curA.toList.take ((i + 1) * 1) ++ xs.drop (i * 1) ++ curA.toList.drop ((i + 1) * 1 + (xs.drop (i * 1)).length)).toArray:=⟨_,rfl⟩
 have hBl : curB.size = G * 1:=by rw [hcurB];simp [hdl,hAl];omega
 have hnew : (w.alloc (.cells ROW 9)).heap[N]? = some (.cells ROW 9 (0,0)):=heap_new_at _ _ _ hN
 have hold' : ∀ k,k < w.heap.size → (w.alloc (.cells ROW 9)).heap[k]? = w.heap[k]?:=fun k hk => ((Below.refl w.heap.size w).alloc (Nat.le_refl _) _).block k hk
 have hcpA : ∀ (W : World) (ty : TypeId) (d1 dl dc : Nat), W.heap = (w.alloc (.cells ROW 9)).heap → d1 = i * 1 → dl = n + 1 - i →
     (Builtin.copy_ #[23,23] ty #[.slice (some ⟨N,d1,none⟩) dl dc,.slice (some ⟨vb,0,none⟩) 1 1]).run Tryz.prog W = .ok (goInt (1 : Nat)) (W.setRow N curA):=by
   rintro W ty d1 dl dc hW rfl rfl
   rw [hcurA]
   have hm : Nat.min 1 (n + 1 - i) = 1:=by simp only [Nat.min_def];split <;> omega
   have:=run_copy_rowk (P:=Tryz.prog) 1 W 23 23 ty 9 N (i * 1) (n + 1 - i) dc ⟨vb,0,none⟩ 1 1 ROW 9 ys Tryz.underlying23 hsz (by rw [hW];exact hnew) (by rw [hm,hyl])
     (fun j u hj => by
       rw [Addr.add_lit,Nat.zero_add]
       simp only [World.cell?,hW,hold' vb hvw,hv];simpa using hj) (by rw [hyl,hRl];omega) hy1
   rw [hm] at this
   exact this
 have hcpB : ∀ (W : World) (ty : TypeId) (d1 d2 dl dc sl sc : Nat), W.heap = ((w.alloc (.cells ROW 9)).setRow N curA).heap → d1 = (i + 1) * 1 → d2 = i * 1 → dl = n + 1 - (i + 1) → sl = n - i →
     (Builtin.copy_ #[23,23] ty #[.slice (some ⟨N,d1,none⟩) dl dc,.slice (some ⟨g,d2,none⟩) sl sc]).run Tryz.prog W = .ok (goInt (n - i : Nat)) (W.setRow N curB):=by
   rintro W ty d1 d2 dl dc sl sc hW rfl rfl rfl rfl
   rw [hcurB]
   have hm : Nat.min (n - i) (n + 1 - (i + 1)) = n - i:=by simp only [Nat.min_def];split <;> omega
   have:=run_copy_rowk (P:=Tryz.prog) 1 W 23 23 ty 9 N ((i + 1) * 1) (n + 1 - (i + 1)) dc ⟨g,i * 1,none⟩ (n - i) sc curA 9 (xs.drop (i * 1)) Tryz.underlying23 hsz (by rw [hW];exact setRow_heap _ _ _ _ _ _ hnew) (by rw [hm,hdl];omega)
     (fun j u hj => by
       rw [Addr.add_lit]
       rw [List.getElem?_drop] at hj
       have:=hxc _ u hj
       simp only [World.cell?,hW,setRow_other _ _ _ _ hgN,hold' g hgw,hg]
       simpa using this) (by rw [hdl,hAl];omega) (fun u hu => hx1 u (List.mem_of_mem_drop hu))
   rw [hm] at this
   exact this
 have hfin : curB.toList.take ((n + 1) * 1) = layIn xs ys (i * 1):=by
   have:=grow_cells (xs:=xs) (ys:=ys) (zs:=zs) (p:=i * 1) (N:=n * 1) (k:=1) hxl hyl (by omega) (by rw [hzl];omega)
   rw [hcurB,hcurA,hROW,show (n + 1) * 1 = n * 1 + 1 by omega,hyl,show (i + 1) * 1 = i * 1 + 1 by omega]
   simpa using this
 have hfh : (((((w.alloc (.cells ROW 9)).drew).setRow N curA).drew).setRow N curB).heap[N]? = some (.cells curB 9 (0,0)):=setRow_heap _ _ _ _ _ _ (setRow_heap (w.alloc (.cells ROW 9)).drew N ROW _ _ _ hnew)
 have hOUT : InsOut B 9 1 n (.slice (some ⟨g,0,none⟩) n cap) (layIn xs ys (i * 1)) w (.returned (.slice (some ⟨N,0,none⟩) (n + 1) G)) (((((w.alloc (.cells ROW 9)).drew).setRow N curA).drew).setRow N curB):=by
   refine ⟨_,rfl,⟨by rw [layIn_len,hxl,hyl];omega,.inr ⟨N,G,curB,rfl,by omega,hfh,hGn,hGm,hBl,hfin⟩⟩,rfl,rfl,rfl,by simp [World.setRow],fun k hk _ => ?_⟩
   rw [setRow_other _ _ _ _ (by omega)]
   show ((w.alloc (.cells ROW 9)).drew.setRow N curA).heap[k]? = _
   rw [setRow_other _ _ _ _ (by omega)]
   exact hold' k hk
 have HOUT:=Lh hOUT
 have HCA:=Lh hcpA
 have HCB:=Lh hcpB
 have HRZ:=Lh hrz
 have hw1 : IntKind.i64.wrap ((i : Int) + 1) = (i : Int) + 1:=by rw [IntKind.wrap_i64];omega
 have hw2 : IntKind.i64.wrap ((n : Int) + 1) = (n : Int) + 1:=by rw [IntKind.wrap_i64];omega
 have hw3 : IntKind.i64.wrap ((n : Int) + 1 - (i : Int)) = (n : Int) + 1 - (i : Int):=by rw [IntKind.wrap_i64];omega
 have htn : ((i : Int) + 1).toNat = i + 1:=by omega
 have hz2 : ¬ ((i : Int) = (n : Int)):=by omega
 have hz3 : ¬ (i = n):=by omega
 have hb1 : (0 : Int) ≤ (i : Int) + 1:=by omega
 have hb3 : (i : Int) ≤ (n : Int):=by omega
 have hb4 : ¬ (cap = i):=by omega
 have hb5 : (cap : Int) < (n : Int) + 1:=by omega
 have hb6 : ¬ (G = i):=by omega
 have hb7 : ¬ (G = i + 1):=by omega
 have hb8 : i ≤ n:=by omega
 have hG63 : G ≤ 9223372036854775807:=by unfold maxLen at hGm;omega
 obtain ⟨W2,hW2⟩ : ∃ W2,(w.alloc (.cells ROW 9)).drew.setRow N curA = W2:=⟨_,rfl⟩
 have hcA:=hcpA (w.alloc (.cells ROW 9)).drew 3 (i * 1) (n + 1 - i) (G - i) rfl rfl rfl
 have hcB:=hcpB W2.drew 3 ((i + 1) * 1) (i * 1) (n + 1 - (i + 1)) (G - (i + 1)) (n - i) (cap - i) (by rw [← hW2];rfl) rfl rfl rfl rfl
 rw [hW2] at hcA HOUT
 rw [show n + 1 - (i + 1) = n - i by omega] at hcB
 subst hN
 try simp only [Nat.mul_one] at hcA
 try simp only [Nat.mul_one] at hcB
 clear hW2
 clear hOUT hcpA hcpB hrz hfin hfh hBl hcurB hAl hcurA hnew hold' hRl hROW hzl hzs' hold hxc hdl htl hgd hsz hv hyl hy1 hx1 hxl hx hcs hG hGm hg hkk
 go_enter Tryz.func142,Tryz.ntmps142
 go_wp2_with (at_builtin;refine Lib.wpList_append_run _ rfl _ _ _ _ rfl _ _ rfl rfl _ _ (HRZ.out _) ?_)
 go_region
 go_wp2
 go_ret
 exact HOUT.out
theorem insSt_in (B : Nat) (v : Value) (n i vb : Nat) (xs ys : List Value) (w : World) (h : w.ownsRow B 9 1 v n xs) (hB : B ≤ w.heap.size) (hi : i ≤ n) (hn : n ≤ 8191) (hvg : v.ownBlock ≠ some vb)
   (hv : w.heap[vb]? = some (.cells ys.toArray 9 (0,0))) (hyl : ys.length = 1) (hy1 : ∀ u ∈ ys,u.oneCell' = true) (hx1 : ∀ u ∈ xs,u.oneCell' = true) :
   Calls Tryz.prog 142 #[v,.int .i64 i,.slice (some ⟨vb,0,none⟩) 1 1] w (InsOut B 9 1 n v (layIn xs ys (i * 1)) w):=by
 rcases Nat.lt_or_ge i n with hin | hin
 · obtain ⟨hxl,⟨_,rfl⟩ | ⟨g,cap,cur,rfl,hBg,hg,hnc,hcm,hcs,hx⟩⟩:=h
   · omega
   · have hne : vb ≠ g:=fun e => hvg (by rw [e];rfl)
     rcases Nat.lt_or_ge cap (n + 1) with hc | hc
     · exact insSt_grow B g n cap i vb cur xs ys w hBg hB hg hxl hcs hx hnc hc hin hn hv hyl hy1 hx1
     · exact insSt_shift B g n cap i vb cur xs ys w hBg hg hxl hcs hx hc hcm hin hn hne hv hyl hy1 hx1
 · obtain rfl : i = n:=by omega
   exact insSt_end B v i vb xs ys w h hB hn hv hyl hy1
theorem keys_own (S : Nat → Prop) (kv : Value) (ks : List L) (w : World) (h : KeysAt S w kv ks) (hn : ks.length ≤ 8192) :
   Calls Tryz.prog 140 #[kv] w fun e w' => ∃ v',e = .returned v' ∧ w'.ownsRow w.heap.size 9 1 v' ks.length (ks.map fun x => Value.string ⟨x.toArray⟩) ∧ Below w.heap.size w w':=by
 rcases h with ⟨rfl,p,c,rfl⟩ | ⟨b,o,c,rfl,hb,hc⟩
 · cases p with
   | none =>
     refine (Tryz.slices_Clone_string_nil 0 c w).mono ?_
     rintro e w' ⟨rfl,rfl⟩
     exact ⟨_,rfl,⟨rfl,.inl ⟨rfl,rfl⟩⟩,Below.refl _ _⟩
   | some a =>
     refine (Tryz.slices_Clone_string_zero a c w).mono ?_
     rintro e w' ⟨v',rfl,hown,_,hbe⟩
     exact ⟨_,rfl,hown,hbe⟩
 · refine (Tryz.slices_Clone_string b o ks.length c (ks.map fun x => (⟨x.toArray⟩ : ByteArray)) w (by simp) (by omega) (fun j hj => by
     have hj2 : j < ks.length:=by simpa using hj
     rw [hc j hj2];simp [List.getD,hj2])).mono ?_
   rintro e w' ⟨v',rfl,hown,_,hbe⟩
   refine ⟨_,rfl,?_,hbe⟩
   rw [List.take_of_length_le (by simp),List.map_map] at hown
   exact hown
theorem row_css {S : Nat → Prop} {d : Nat} {w : World} {os : List Ob} {b off : Nat}
   (h : ∀ i (h : i < os.length),∃ ks : List Value,ks.length = 6 ∧ (∀ j (hj : j < ks.length),w.cell? ⟨b,off + 6 * i + j,none⟩ = some ks[j]) ∧ ObjAt S d w ks os[i]) :
   ∃ css : List (List Value),KidsAt S d w css os ∧ ∀ j u,css.flatten[j]? = some u → w.cell? ⟨b,off + j,none⟩ = some u:=by
 obtain ⟨css,hl,hc⟩ : ∃ css : List (List Value),css.length = os.length ∧ ∀ i (hi : i < os.length) cs,css[i]? = some cs → cs.length = 6 ∧ (∀ j (hj : j < cs.length),w.cell? ⟨b,off + 6 * i + j,none⟩ = some cs[j]) ∧ ObjAt S d w cs os[i]:=by
   refine ⟨List.ofFn (fun i : Fin os.length => Classical.choose (h i.1 i.2)),by simp,fun i hi cs hcs => ?_⟩
   rw [List.getElem?_ofFn] at hcs
   simp only [hi,dite_true,Option.some.injEq] at hcs
   subst hcs
   exact Classical.choose_spec (h i hi)
 have hk : KidsAt S d w css os:=⟨hl,fun i cs o h1 h2 => by
   have hi : i < os.length:=(List.getElem?_eq_some_iff.1 h2).1
   obtain ⟨g1,g2,g3⟩:=hc i hi cs h1
   rw [List.getElem?_eq_getElem hi] at h2
   cases h2
   exact ⟨g1,g3⟩⟩
 refine ⟨css,hk,fun j u hj => ?_⟩
 have h6:=hk.six
 have hjl : j < css.flatten.length:=(List.getElem?_eq_some_iff.1 hj).1
 rw [flat6 h6] at hjl
 have hi : j / 6 < css.length:=by omega
 have hq : css[j / 6]? = some css[j / 6]:=List.getElem?_eq_getElem hi
 obtain ⟨g1,g2,g3⟩:=hc (j / 6) (by omega) _ hq
 have e : 6 * (j / 6) + j % 6 = j:=by omega
 have r:=flat6_get h6 hq (show j % 6 < 6 by omega)
 rw [e,hj,List.getElem?_eq_getElem (by omega)] at r
 have r2:=g2 (j % 6) (by omega)
 rw [show off + 6 * (j / 6) + j % 6 = off + j by omega] at r2
 rw [r2,← r]
theorem obs_clone (b off n c : Nat) (p : Option Addr) (news : List Value) (w : World) (hl : news.length = n * 6) (hn : n ≤ 8192) (hp : n = 0 ∨ p = some ⟨b, off, none⟩)
   (hc : ∀ j u,news[j]? = some u → w.cell? ⟨b,off + j,none⟩ = some u) (h1 : ∀ u ∈ news,u.oneCell' = true) :
   Calls Tryz.prog 141 #[.slice p n c] w fun e w' => ∃ v',e = .returned v' ∧ w'.ownsRow w.heap.size 26 6 v' n news ∧ Below w.heap.size w w':=by
 obtain ⟨i0,hi,hz0,hz1,hz2⟩:=info_parts Tryz.infoOb
 have q24 : ∀ (w : World) (a : Option Addr) (n c n' c' : Nat),(binOp .eql 24 (.slice a n c) (.slice none n' c')).run Tryz.prog w = .ok (.bool a.isNone) w:=fun w a n c n' c' => Lib.run_eql_slice_nil w _ _ a n c n' c' Tryz.underlying24
 cases p with
 | none =>
   obtain rfl : n = 0:=by rcases hp with h | h;exact h;cases h
   obtain rfl : news = []:=List.eq_nil_of_length_eq_zero (by omega)
   go_enter Tryz.func141,Tryz.ntmps141
   go_wp2
   go_ret
   exact ⟨_,rfl,⟨rfl,.inl ⟨rfl,rfl⟩⟩,Below.refl _ _⟩
 | some a =>
   have hsrc : ∀ j u,news[j]? = some u → w.cell? (a.add j) = some u:=fun j u hj => by
     rcases hp with h | h
     · subst h
       obtain rfl : news = []:=List.eq_nil_of_length_eq_zero (by omega)
       simp at hj
     · cases h
       rw [Addr.add_lit];exact hc j u hj
   have HS:=Lh hsrc
   have HL:=Lh hl
   have H1:=Lh h1
   clear hsrc hl h1 hc hp
   go_enter Tryz.func141,Tryz.ntmps141
   go_wp2_with (at_builtin;refine wpList_append_own _ rfl _ _ 24 rfl w.heap.size 26 i0 (.agg #[.int .i64 0,.int .i64 0,.int .i64 0,.string ⟨#[]⟩,.slice none 0 0,.slice none 0 0]) 6 88 Tryz.underlying24 hi hz0 hz1 hz2 rfl (by decide) _ _ _ rfl (World.ownsRow_made w #[] 0 (Nat.le_refl _) (Nat.zero_le _) (by simp)) a n c news rfl HL.out (fun j u hj => Lib.cell?_alloc_some _ (HS.out j u hj)) H1.out (by unfold maxLen;omega) (by omega) (by simp) ?_)
   intro v' w1 hown hgrow hnil
   go_wp2
   go_ret
   refine ⟨v',rfl,by simpa using hown,?_⟩
   exact ((Below.refl _ w).alloc (Nat.le_refl _) _).grown hgrow (by simp) (by intro k hk;simp [Value.ownBlock] at hk;omega)
theorem KidsAt.one {S : Nat → Prop} {d : Nat} {w : World} {css : List (List Value)} {os : List Ob} (h : KidsAt S d w css os) : ∀ u ∈ css.flatten,u.oneCell' = true:=by
 intro u hu
 obtain ⟨cs,hcs,hu⟩:=List.mem_flatten.1 hu
 obtain ⟨i,hi,rfl⟩:=List.mem_iff_getElem.1 hcs
 have hi2 : i < os.length:=by rw [← h.1];exact hi
 obtain ⟨_,hO⟩:=h.2 i _ os[i] (List.getElem?_eq_getElem hi) (List.getElem?_eq_getElem hi2)
 obtain ⟨p1,n1,c1,p2,n2,c2,e⟩:=hO.shape
 rw [e] at hu
 exact objCells_one _ _ _ _ _ _ _ u hu
theorem kids_clone (S : Nat → Prop) (d : Nat) (dv : Value) (os : List Ob) (w : World) (h : RowAt S d w dv os) (hn : os.length ≤ 8192) (hS : ∀ b, S b → b < w.heap.size) :
   Calls Tryz.prog 141 #[dv] w fun e w' => ∃ v' css,e = .returned v' ∧ w'.ownsRow w.heap.size 26 6 v' os.length css.flatten ∧ KidsAt S d w' css os ∧ Below w.heap.size w w':=by
 rcases h with ⟨rfl,p,c,rfl⟩ | ⟨b,off,c,rfl,hb,hc⟩
 · refine (obs_clone 0 0 0 c p [] w rfl (by omega) (.inl rfl) (fun j u hj => by simp at hj) (fun u hu => by cases hu)).mono ?_
   rintro e w' ⟨v',rfl,hown,hbe⟩
   exact ⟨v',[],rfl,hown,.nil,hbe⟩
 · obtain ⟨css,hk,hcell⟩:=row_css hc
   refine (obs_clone b off os.length c _ css.flatten w (by rw [flat6 hk.six,hk.1];omega) hn (.inr rfl) hcell hk.one).mono ?_
   rintro e w' ⟨v',rfl,hown,hbe⟩
   exact ⟨v',css,rfl,hown,hk.grow (fun b h _ => ⟨h,hbe.block b (hS b h)⟩),hbe⟩
theorem lowS_lt : ∀ {l : List L} {k : L} {j : Nat},j < lowS l k → ∃ h : j < l.length,l[j] < k
 | [],_,_,h => absurd h (by simp [lowS])
 | x :: l,k,j,h => by
   unfold lowS at h
   by_cases hx : x < k
   · rw [if_pos hx] at h
     cases j with
     | zero => exact ⟨by simp,hx⟩
     | succ j =>
       obtain ⟨h1,h2⟩:=lowS_lt (l:=l) (k:=k) (j:=j) (by omega)
       exact ⟨by simpa using h1,by simpa using h2⟩
   · rw [if_neg hx] at h;omega
theorem lowS_ge : ∀ {l : List L} {k : L},l.Pairwise (· < ·) → ∀ {j : Nat} (h : j < l.length),lowS l k ≤ j → ¬ l[j] < k
 | x :: l,k,hp,j,h,hj => by
   unfold lowS at hj
   obtain ⟨hp1,hp2⟩:=List.pairwise_cons.1 hp
   by_cases hx : x < k
   · rw [if_pos hx] at hj
     cases j with
     | zero => omega
     | succ j =>
       have:=lowS_ge (k:=k) hp2 (j:=j) (by simpa using h) (by omega)
       simpa using this
   · cases j with
     | zero => exact hx
     | succ j =>
       have hj2 : j < l.length:=by simpa using h
       have h1:=hp1 l[j] (List.getElem_mem hj2)
       show ¬ l[j] < k
       exact fun hlt => hx (List.lt_trans h1 hlt)
theorem bs_low (ks : List L) (key : L) (hup : ks.Pairwise (· < ·)) :
   Lib.bsGo (fun t => Op.bytesLess (⟨(ks.getD t key).toArray⟩ : ByteArray).toList (⟨key.toArray⟩ : ByteArray).toList) ks.length 0 ks.length = lowS ks key:=by
 refine Lib.bsGo_spec _ (lowS ks key) (fun t ht => ?_) (fun t ht => ?_) ks.length 0 ks.length (Nat.le_refl _) (Nat.zero_le _) (lowS_le ks key)
 · obtain ⟨h1,h2⟩:=lowS_lt ht
   rw [Lib.toList_data,Lib.toList_data,bytesLess_eq,List.getD_eq_getElem?_getD,List.getElem?_eq_getElem h1]
   simpa using h2
 · rw [Lib.toList_data,Lib.toList_data,bytesLess_eq]
   by_cases h1 : t < ks.length
   · rw [List.getD_eq_getElem?_getD,List.getElem?_eq_getElem h1]
     simpa using lowS_ge hup h1 ht
   · rw [List.getD_eq_getElem?_getD,List.getElem?_eq_none (by omega)]
     simp
theorem flat6_take : ∀ {css : List (List Value)},(∀ cs ∈ css,cs.length = 6) → ∀ i,i ≤ css.length → css.flatten.take (i * 6) = (css.take i).flatten
 | [],_,i,h => by simp
 | c :: css,h6,i,h => by
   cases i with
   | zero => simp
   | succ i =>
     have hc:=h6 c (by simp)
     rw [List.flatten_cons,List.take_succ_cons,List.flatten_cons,List.take_append,hc,List.take_of_length_le (by omega),show (i + 1) * 6 - 6 = i * 6 by omega]
     rw [flat6_take (fun x hx => h6 x (by simp [hx])) i (by simpa using h)]
theorem flat6_drop : ∀ {css : List (List Value)},(∀ cs ∈ css,cs.length = 6) → ∀ i,i ≤ css.length → css.flatten.drop (i * 6) = (css.drop i).flatten
 | [],_,i,h => by simp
 | c :: css,h6,i,h => by
   cases i with
   | zero => simp
   | succ i =>
     have hc:=h6 c (by simp)
     rw [List.flatten_cons,List.drop_succ_cons,List.drop_append,hc,List.drop_eq_nil_of_le (by omega),List.nil_append,show (i + 1) * 6 - 6 = i * 6 by omega]
     exact flat6_drop (fun x hx => h6 x (by simp [hx])) i (by simpa using h)
theorem layIn_flat {css : List (List Value)} {v : List Value} (h6 : ∀ cs ∈ css,cs.length = 6) {i : Nat} (hi : i ≤ css.length) : layIn css.flatten v (i * 6) = (css.take i ++ v :: css.drop i).flatten:=by
 unfold layIn
 rw [flat6_take h6 i hi,flat6_drop h6 i hi]
 simp
theorem layIn_keys (ks : List L) (key : L) (i : Nat) : layIn (ks.map fun x => Value.string ⟨x.toArray⟩) [.string ⟨key.toArray⟩] (i * 1) = (ks.take i ++ key :: ks.drop i).map fun x => Value.string ⟨x.toArray⟩:=by
 unfold layIn
 rw [Nat.mul_one]
 simp
theorem KidsAt.insert {S : Nat → Prop} {d : Nat} {w : World} {css : List (List Value)} {os : List Ob} (h : KidsAt S d w css os) {vcs : List Value} {v : Ob} (hl : vcs.length = 6) (hv : ObjAt S d w vcs v) {i : Nat} (hi : i ≤ os.length) :
   KidsAt S d w (css.take i ++ vcs :: css.drop i) (os.take i ++ v :: os.drop i):=by
 have hc : css.length = os.length:=h.1
 refine ⟨by simp [hc],fun j cs o h1 h2 => ?_⟩
 by_cases hj : j < i
 · rw [List.getElem?_append_left (by simp;omega),List.getElem?_take_of_lt hj] at h1
   rw [List.getElem?_append_left (by simp;omega),List.getElem?_take_of_lt hj] at h2
   exact h.2 j cs o h1 h2
 · rw [List.getElem?_append_right (by simp;omega)] at h1 h2
   rw [List.length_take,Nat.min_eq_left (by omega)] at h1 h2
   by_cases he : j = i
   · subst he
     rw [Nat.sub_self] at h1 h2
     simp at h1 h2
     subst h1;subst h2
     exact ⟨hl,hv⟩
   · obtain ⟨k,rfl⟩ : ∃ k,j = i + 1 + k:=⟨j - i - 1,by omega⟩
     rw [show i + 1 + k - i = k + 1 by omega,List.getElem?_cons_succ,List.getElem?_drop] at h1 h2
     exact h.2 (i + k) cs o h1 h2
theorem keysAt_own {w : World} {B : Nat} {v : Value} {ks : List L} (h : w.ownsRow B 9 1 v ks.length (ks.map fun x => Value.string ⟨x.toArray⟩)) : KeysAt (fun b => B ≤ b) w v ks:=by
 rcases h.2 with ⟨rfl,h0⟩ | ⟨g,cap,cur,rfl,hB,hgb,_,_,_,h4⟩
 · exact .inl ⟨List.length_eq_zero_iff.1 h0,none,0,rfl⟩
 · refine .inr ⟨g,0,cap,rfl,hB,fun i hi => ?_⟩
   have h5 : cur[i]? = some (Value.string ⟨(ks[i]).toArray⟩):=by
     have : (cur.toList.take (ks.length * 1))[i]? = some (Value.string ⟨(ks[i]).toArray⟩):=by rw [h4];simp [hi]
     rw [List.getElem?_take_of_lt (by omega)] at this
     simpa using this
   simp [World.cell?,hgb,h5]
theorem putO_absent {o : Ob} {k : L} {v : Ob} (h : k ∉ o.keys) : putO o k v = o.withK (o.keys.take (lowS o.keys k) ++ k :: o.keys.drop (lowS o.keys k)) (o.kids.take (lowS o.keys k) ++ v :: o.kids.drop (lowS o.keys k)):=by
 unfold putO
 dsimp only
 rw [if_neg (fun e => h (List.mem_of_getElem? e))]
def Tryz.lays26_ren : Go.Shelf.Ren:=⟨fun | 26 => 136 | 33 => 181 | 34 => 182 | 38 => 212 | n => n,fun | 0 => 0 | 3 => 3 | 4 => 4 | 9 => 9 | 24 => 23 | 40 => 195 | n => n,fun | n => n⟩
theorem Tryz.lays26 : Go.Proofs.Lays2.n26 Tryz.prog Tryz.lays26_ren:={
 mixed:=by kernel_rfl
 f26:=Tryz.func136.trans (congrArg some (by kernel_rfl))
 f33:=Tryz.func181.trans (congrArg some (by kernel_rfl))
 f34:=Tryz.func182.trans (congrArg some (by kernel_rfl))
 f38:=Tryz.func212.trans (congrArg some (by kernel_rfl))
 t0:=Tryz.underlying0
 a0:=Tryz.isAgg0
 z0:=Tryz.sizeOf0
 v0:=Tryz.zeroValue0
 t3:=Tryz.underlying3
 a3:=Tryz.isAgg3
 z3:=Tryz.sizeOf3
 v3:=Tryz.zeroValue3
 t4:=Tryz.underlying4
 a4:=Tryz.isAgg4
 z4:=Tryz.sizeOf4
 v4:=Tryz.zeroValue4
 t9:=Tryz.underlying9
 a9:=Tryz.isAgg9
 z9:=Tryz.sizeOf9
 v9:=Tryz.zeroValue9
 t24:=Tryz.underlying23
 a24:=Tryz.isAgg23
 z24:=Tryz.sizeOf23
 v24:=Tryz.zeroValue23
 t40:=Tryz.underlying195
 a40:=Tryz.isAgg195
 z40:=Tryz.sizeOf195
 v40:=Tryz.zeroValue195 }
theorem bs_absent (S : Nat → Prop) (kv : Value) (ks : List L) (key : L) (w : World) (h : KeysAt S w kv ks) (hab : key ∉ ks) (hup : ks.Pairwise (· < ·)) (hn : ks.length ≤ 8192) :
   Calls Tryz.prog 136 #[kv,.string ⟨key.toArray⟩] w fun e w' => e = .returned (.tuple #[.int .i64 (lowS ks key : Nat),.bool false]) ∧ ∃ q,w' = w.drewN q:=by
 rcases h with ⟨rfl,p,c,rfl⟩ | ⟨b,o,c,rfl,hb,hc⟩
 · refine (Any2.slices_BinarySearch_string_empty Tryz.lays26 p c ⟨key.toArray⟩ w).mono ?_
   rintro e w' ⟨rfl,rfl⟩
   exact ⟨rfl,0,rfl⟩
 · refine (Any2.slices_BinarySearch_string Tryz.lays26 b o ks.length c (fun t => ⟨(ks.getD t key).toArray⟩) ⟨key.toArray⟩ w (by omega) (fun j hj => by rw [hc j hj];simp [List.getD_eq_getElem?_getD,hj])).mono ?_
   rintro e w' ⟨rfl,hq⟩
   rw [bs_low ks key hup]
   refine ⟨?_,hq⟩
   have hf : (decide (lowS ks key < ks.length ∧ (⟨(ks.getD (lowS ks key) key).toArray⟩ : ByteArray) = ⟨key.toArray⟩)) = false:=decide_eq_false (fun ⟨h1,h2⟩ => by
     have h3:=congrArg (fun b : ByteArray => b.data.toList) h2
     simp only [List.getD_eq_getElem?_getD,List.getElem?_eq_getElem h1,Option.getD_some] at h3
     exact hab (h3 ▸ List.getElem_mem h1))
   rw [hf]
theorem setAnyV {w : World} {b o : Nat} {t : TypeId} {cur : Array Value} {v : Value} (h : w.heap[b]? = some (.cells cur t (0, 0))) :
   (w.setCell ⟨b,o,none⟩ v).heap[b]? = some (.cells (cur.setIfInBounds o v) t (0,0)):=by
 have hlt:=lt_of_block h
 have h' : w.heap[b] = .cells cur t (0,0):=by simpa [Array.getElem?_eq_getElem hlt] using h
 simp only [World.setCell,Array.getElem?_modify]
 simp [h',Array.getElem?_eq_getElem hlt]
theorem set_other {w : World} {b o k : Nat} {v : Value} {x : Go.Obj} (h : w.heap[k]? = some x) (hne : k ≠ b) : (w.setCell ⟨b,o,none⟩ v).heap[k]? = some x :=
 (Below.heap_setCell _ _ _ k hne).trans h
theorem own_set {w : World} {B b o n k : Nat} {t : TypeId} {v u : Value} {xs : List Value} (h : w.ownsRow B t k v n xs) (hb : b < B) : (w.setCell ⟨b,o,none⟩ u).ownsRow B t k v n xs:=by
 rcases h with ⟨h0,h1 | ⟨g,cap,cur,h1,h2,h3,h4⟩⟩
 · exact ⟨h0,.inl h1⟩
 · exact ⟨h0,.inr ⟨g,cap,cur,h1,h2,by rw [Below.heap_setCell _ _ _ g (by show g ≠ b;omega)];exact h3,h4⟩⟩
theorem own_below {w w' : World} {B n k : Nat} {t : TypeId} {v : Value} {xs : List Value} (h : w.ownsRow B t k v n xs) (hb : Below w.heap.size w w') : w'.ownsRow B t k v n xs :=
 World.ownsRow.kept h (row:=none) ⟨hb.os,hb.tape,hb.output,hb.size,fun k hk _ => hb.block k hk⟩ (Classical.em _)
theorem own_apart {w : World} {B B' n n' k k' : Nat} {t t' : TypeId} {v v' : Value} {xs xs' : List Value} (h : w.ownsRow B t k v n xs) (h' : w.ownsRow B' t' k' v' n' xs') (ht : t ≠ t') : ∀ b,v.ownBlock = some b → v'.ownBlock ≠ some b:=by
 intro b e e'
 rcases h.2 with ⟨rfl,_⟩ | ⟨g,cap,cur,rfl,_,h3,_⟩
 · cases e
 · rcases h'.2 with ⟨rfl,_⟩ | ⟨g',cap',cur',rfl,_,h3',_⟩
   · cases e'
   · have e1 : g = b:=by simpa [Value.ownBlock] using e
     have e2 : g' = b:=by simpa [Value.ownBlock] using e'
     subst e1;subst e2
     rw [h3] at h3'
     cases h3'
     exact ht rfl
theorem own_grown {w w' : World} {B n k : Nat} {t : TypeId} {v u : Value} {xs : List Value} (h : w.ownsRow B t k v n xs) (hg : w.grownBy w' u.ownBlock) (hne : ∀ b,v.ownBlock = some b → u.ownBlock ≠ some b) : w'.ownsRow B t k v n xs:=by
 rcases h with ⟨h0,h1 | ⟨g,cap,cur,h1,h2,h3,h4⟩⟩
 · exact ⟨h0,.inl h1⟩
 · subst h1
   exact ⟨h0,.inr ⟨g,cap,cur,rfl,h2,by rw [hg.block g (lt_of_block h3) (fun e => hne g (by simp [Value.ownBlock]) e.symm)];exact h3,h4⟩⟩
theorem cells_own {w w' : World} {b B n k : Nat} {t : TypeId} {v : Value} {xs : List Value} {c : Go.Obj} (h : w.ownsRow B t k v n xs) (hg : w.grownBy w' v.ownBlock) (hb : b < B) (hc : w.heap[b]? = some c) : w'.heap[b]? = some c :=
 (hg.block b (lt_of_block hc) (fun e => by have:=own_base h b e.symm;omega)).trans hc
theorem with_in (S : Nat → Prop) (d : Nat) (w : World) (cs vcs : List Value) (o vo : Ob) (key : L) (h : ObjAt S (d + 1) w cs o) (hv : ObjAt S d w vcs vo) (hS : ∀ b, S b → b < w.heap.size)
   (hab : key ∉ o.keys) (hup : o.keys.Pairwise (· < ·)) (hl : o.keys.length = o.kids.length) (hn : o.keys.length ≤ 8191) :
   Calls Tryz.prog 87 #[.agg cs.toArray,.string ⟨key.toArray⟩,.agg vcs.toArray] w fun e w' => ∃ cs',e = .returned (.agg cs'.toArray) ∧ ObjAt (fun b => b < w'.heap.size) (d + 1) w' cs' (putO o key vo) ∧ Below w.heap.size w w':=by
 rw [putO_absent hab]
 obtain ⟨kv,dv,rfl,hK,hR0⟩:=h
 have hR : RowAt S d w dv o.kids:=hR0
 clear hR0
 obtain ⟨p1,n1,c1,rfl⟩ : ∃ p n c,kv = .slice p n c:=by
   rcases hK with ⟨_,p,c,h⟩ | ⟨b,o,c,h,_⟩ <;> exact ⟨_,_,_,h⟩
 obtain ⟨p2,n2,c2,rfl⟩ : ∃ p n c,dv = .slice p n c:=by
   rcases hR with ⟨_,p,c,h⟩ | ⟨b,o,c,h,_⟩ <;> exact ⟨_,_,_,h⟩
 obtain ⟨q1,m1,e1,q2,m2,e2,rfl⟩:=hv.shape
 have HBS:=Lh (fun W (hb : Below w.heap.size w W) => bs_absent S _ o.keys key W (hK.kept (fun b h => hb.block b (hS b h))) hab hup (by omega))
 have HCK:=Lh (fun W (hb : Below w.heap.size w W) => keys_own S _ o.keys W (hK.kept (fun b h => hb.block b (hS b h))) (by omega))
 have HCD:=Lh (fun W (hb : Below w.heap.size w W) => kids_clone S d _ o.kids W (hR.kept (fun b h => hb.block b (hS b h))) (by omega) (fun b h => Nat.lt_of_lt_of_le (hS b h) hb.size))
 have HV:=Lh (fun W (hb : Below w.heap.size w W) => ObjAt.kept (w':=W) (fun b h => hb.block b (hS b h)) d hv)
 obtain ⟨i,hi⟩ : ∃ i,lowS o.keys key = i:=⟨_,rfl⟩
 have hile : i ≤ o.keys.length:=by rw [← hi];exact lowS_le _ _
 rw [hi] at HBS ⊢
 obtain ⟨nk,hnk⟩ : ∃ nk,o.keys.length = nk:=⟨_,rfl⟩
 have HNK:=Lh hnk
 have HND:=Lh (show o.kids.length = nk by omega)
 have HLK:=Lh (layIn_keys o.keys key i)
 rw [hnk] at hile hn HCK
 rw [HND.out] at HCD
 clear hK hR hv hi hab hup hl hnk
 unfold objCells
 go_enter Tryz.func87,Tryz.ntmps87
 go_upto_region 1 with fail
 obtain ⟨w0,hw0⟩ : ∃ w0,(((w.alloc (.cells #[.int .i64 o.kind,.int .i64 o.n,.int .i64 o.g,.string ⟨o.s.toArray⟩,.slice p1 n1 c1,.slice p2 n2 c2] 26)).alloc (.cells #[.int .i64 vo.kind,.int .i64 vo.n,.int .i64 vo.g,.string ⟨vo.s.toArray⟩,.slice q1 m1 e1,.slice q2 m2 e2] 26)).alloc (.cells #[.int .i64 0,.int .i64 0,.int .i64 0,.string ⟨#[]⟩,.slice none 0 0,.slice none 0 0] 26)) = w0:=⟨_,rfl⟩
 rw [hw0]
 have A0 : w0.heap[w.heap.size]? = some (.cells #[.int .i64 o.kind,.int .i64 o.n,.int .i64 o.g,.string ⟨o.s.toArray⟩,.slice p1 n1 c1,.slice p2 n2 c2] 26 (0,0)):=by
   rw [← hw0,Below.heap_alloc _ _ _ (by simp;omega),Below.heap_alloc _ _ _ (by simp)];exact heap_new_at _ _ _ rfl
 have A1 : w0.heap[w.heap.size + 1]? = some (.cells #[.int .i64 vo.kind,.int .i64 vo.n,.int .i64 vo.g,.string ⟨vo.s.toArray⟩,.slice q1 m1 e1,.slice q2 m2 e2] 26 (0,0)):=by
   rw [← hw0,Below.heap_alloc _ _ _ (by simp)];exact heap_new_at _ _ _ (by simp)
 have A2 : w0.heap[w.heap.size + 1 + 1]? = some (.cells #[.int .i64 0,.int .i64 0,.int .i64 0,.string ⟨#[]⟩,.slice none 0 0,.slice none 0 0] 26 (0,0)):=by
   rw [← hw0];exact heap_new_at _ _ _ (by simp)
 have hbw : Below w.heap.size w w0:=by rw [← hw0];exact bel
 have hz0 : w0.heap.size = w.heap.size + 3:=by rw [← hw0];simp
 clear hw0
 obtain ⟨b0,b1,b2,b3,b4,b5,bf⟩:=six_of A0
 go_wp2_with fail
 refine (HBS.out _ hbw).mono ?_
 rintro e wq ⟨rfl,q,rfl⟩
 have A0 : (w0.drewN q).heap[w.heap.size]? = some (.cells #[.int .i64 o.kind,.int .i64 o.n,.int .i64 o.g,.string ⟨o.s.toArray⟩,.slice p1 n1 c1,.slice p2 n2 c2] 26 (0,0)):=A0
 have A1 : (w0.drewN q).heap[w.heap.size + 1]? = some (.cells #[.int .i64 vo.kind,.int .i64 vo.n,.int .i64 vo.g,.string ⟨vo.s.toArray⟩,.slice q1 m1 e1,.slice q2 m2 e2] 26 (0,0)):=A1
 have A2 : (w0.drewN q).heap[w.heap.size + 1 + 1]? = some (.cells #[.int .i64 0,.int .i64 0,.int .i64 0,.string ⟨#[]⟩,.slice none 0 0,.slice none 0 0] 26 (0,0)):=A2
 have hbw : Below w.heap.size w (w0.drewN q):=belowDrewN hbw q
 have hz0 : (w0.drewN q).heap.size = w.heap.size + 3:=hz0
 obtain ⟨w1,hw1⟩ : ∃ w1,w0.drewN q = w1:=⟨_,rfl⟩
 rw [hw1] at A0 A1 A2 hbw hz0 ⊢
 clear hw1 b0 b1 b2 b3 b4 b5 bf
 obtain ⟨b0,b1,b2,b3,b4,b5,bf⟩:=six_of A0
 go_wp2_with fail
 refine (HCK.out _ hbw).mono ?_
 rintro e w2 ⟨v1,rfl,own1,hb1⟩
 obtain ⟨p3,c3,rfl⟩:=own_slice own1
 rw [hz0] at own1
 have A0:=(hb1.block _ (by omega)).trans A0
 have A1:=(hb1.block _ (by omega)).trans A1
 have A2:=(hb1.block _ (by omega)).trans A2
 have hbw:=hbw.trans (hb1.mono hbw.size)
 have hz1:=hb1.size
 clear hb1 b0 b1 b2 b3 b4 b5 bf
 obtain ⟨b0,b1,b2,b3,b4,b5,bf⟩:=six_of A0
 go_wp2_with fail
 obtain ⟨w3,hw3⟩ : ∃ w3,w2.setCell ⟨w.heap.size,4,none⟩ (.slice p3 nk c3) = w3:=⟨_,rfl⟩
 rw [hw3]
 have B0:=setAnyV (o:=4) (v:=.slice p3 nk c3) A0
 have B1:=set_other (o:=4) (v:=.slice p3 nk c3) A1 (show w.heap.size + 1 ≠ w.heap.size by omega)
 have B2:=set_other (o:=4) (v:=.slice p3 nk c3) A2 (show w.heap.size + 1 + 1 ≠ w.heap.size by omega)
 have hbw3 : Below w.heap.size w w3:=by rw [← hw3];exact hbw.setCell (Nat.le_refl _) _
 have hz3 : w3.heap.size = w2.heap.size:=by rw [← hw3];simp
 have own3:=own_set (b:=w.heap.size) (o:=4) (u:=.slice p3 nk c3) own1 (by omega)
 rw [hw3] at B0 B1 B2 own3
 have B0 : w3.heap[w.heap.size]? = some (.cells #[.int .i64 o.kind,.int .i64 o.n,.int .i64 o.g,.string ⟨o.s.toArray⟩,.slice p3 nk c3,.slice p2 n2 c2] 26 (0,0)):=B0
 clear hw3 A0 A1 A2 hbw own1 b0 b1 b2 b3 b4 b5 bf
 refine (HCD.out _ hbw3).mono ?_
 rintro e w4 ⟨v2,css,rfl,own2,hk2,hb4⟩
 obtain ⟨p4,c4,rfl⟩:=own_slice own2
 have C0:=(hb4.block _ (by omega)).trans B0
 have C1:=(hb4.block _ (by omega)).trans B1
 have C2:=(hb4.block _ (by omega)).trans B2
 have own4:=own_below own3 hb4
 have hbw4:=hbw3.trans (hb4.mono hbw3.size)
 have hz4:=hb4.size
 have hklt : ∀ b,(Value.slice p3 nk c3).ownBlock = some b → b < w3.heap.size:=fun b e => (own3.lt b e).2
 clear hb4 B0 B1 B2 own3 hbw3
 obtain ⟨b0,b1,b2,b3,b4,b5,bf⟩:=six_of C0
 go_wp2_with fail
 obtain ⟨w5,hw5⟩ : ∃ w5,(w4.setCell ⟨w.heap.size,5,none⟩ (.slice p4 nk c4)).alloc (.cells #[.string ⟨key.toArray⟩] 9) = w5:=⟨_,rfl⟩
 rw [hw5]
 have hb5 : Below (w4.setCell ⟨w.heap.size,5,none⟩ (.slice p4 nk c4)).heap.size (w4.setCell ⟨w.heap.size,5,none⟩ (.slice p4 nk c4)) w5:=by rw [← hw5];exact (Below.refl _ _).alloc (Nat.le_refl _) _
 have hs4 : (w4.setCell ⟨w.heap.size,5,none⟩ (.slice p4 nk c4)).heap.size = w4.heap.size:=by simp
 have D0 : w5.heap[w.heap.size]? = some (.cells #[.int .i64 o.kind,.int .i64 o.n,.int .i64 o.g,.string ⟨o.s.toArray⟩,.slice p3 nk c3,.slice p4 nk c4] 26 (0,0)):=(hb5.block _ (by omega)).trans (setAnyV (o:=5) (v:=.slice p4 nk c4) C0)
 have D1:=(hb5.block _ (by omega)).trans (set_other (o:=5) (v:=.slice p4 nk c4) C1 (show w.heap.size + 1 ≠ w.heap.size by omega))
 have D2:=(hb5.block _ (by omega)).trans (set_other (o:=5) (v:=.slice p4 nk c4) C2 (show w.heap.size + 1 + 1 ≠ w.heap.size by omega))
 have D3 : w5.heap[w4.heap.size]? = some (.cells #[.string ⟨key.toArray⟩] 9 (0,0)):=by rw [← hw5];exact heap_new_at _ _ _ (by simp)
 have own5:=own_below (own_set (b:=w.heap.size) (o:=5) (u:=.slice p4 nk c4) own4 (by omega)) hb5
 have own5k:=own_below (own_set (b:=w.heap.size) (o:=5) (u:=.slice p4 nk c4) own2 (by omega)) hb5
 have hz5 : w5.heap.size = w4.heap.size + 1:=by rw [← hw5];simp
 have hbw5 : Below w.heap.size w w5:=(hbw4.setCell (Nat.le_refl _) _).trans (hb5.mono (by omega))
 have hk4:=hk2
 clear hw5 hb5 hs4 own4 own2 C0 C1 C2 b0 b1 b2 b3 b4 b5 bf hk2
 refine (insSt_in (w.heap.size + 3) _ nk i w4.heap.size _ [.string ⟨key.toArray⟩] w5 own5 (by omega) hile hn (fun e => by have:=hklt _ e;omega) D3 rfl (fun u hu => by simp at hu;subst hu;rfl) (fun u hu => by obtain ⟨x,_,rfl⟩:=List.mem_map.1 hu;rfl)).mono ?_
 rintro e w6 ⟨v3,rfl,own6,hg6⟩
 obtain ⟨p5,c5,rfl⟩:=own_slice own6
 have E0:=cells_own own5 hg6 (by omega) D0
 have E1:=cells_own own5 hg6 (by omega) D1
 have E2:=cells_own own5 hg6 (by omega) D2
 have own6k:=own_grown own5k hg6 (fun b e e' => by have h1:=hklt b e';have h2:=own_base own5k b e;omega)
 have hbw6 : Below w.heap.size w w6:=hbw5.grown hg6 hbw5.size (fun k hk => by have:=own_base own5 k hk;omega)
 have hz6:=hg6.size
 clear hg6 own5 own5k D0 D1 D2 D3 hbw5 hklt
 obtain ⟨b0,b1,b2,b3,b4,b5,bf⟩:=six_of E0
 obtain ⟨v0,v1,v2,v3,v4,v5,vf⟩:=six_of E1
 go_wp2_with fail
 obtain ⟨vc,hvc⟩ : ∃ vc : List Value,[.int .i64 vo.kind,.int .i64 vo.n,.int .i64 vo.g,.string ⟨vo.s.toArray⟩,.slice q1 m1 e1,.slice q2 m2 e2] = vc:=⟨_,rfl⟩
 obtain ⟨w7,hw7⟩ : ∃ w7,(w6.setCell ⟨w.heap.size,4,none⟩ (.slice p5 (nk + 1) c5)).alloc (.cells #[.int .i64 vo.kind,.int .i64 vo.n,.int .i64 vo.g,.string ⟨vo.s.toArray⟩,.slice q1 m1 e1,.slice q2 m2 e2] 26) = w7:=⟨_,rfl⟩
 rw [hw7]
 have hb7 : Below (w6.setCell ⟨w.heap.size,4,none⟩ (.slice p5 (nk + 1) c5)).heap.size (w6.setCell ⟨w.heap.size,4,none⟩ (.slice p5 (nk + 1) c5)) w7:=by rw [← hw7];exact (Below.refl _ _).alloc (Nat.le_refl _) _
 have hs6 : (w6.setCell ⟨w.heap.size,4,none⟩ (.slice p5 (nk + 1) c5)).heap.size = w6.heap.size:=by simp
 have F0 : w7.heap[w.heap.size]? = some (.cells #[.int .i64 o.kind,.int .i64 o.n,.int .i64 o.g,.string ⟨o.s.toArray⟩,.slice p5 (nk + 1) c5,.slice p4 nk c4] 26 (0,0)):=(hb7.block _ (by omega)).trans (setAnyV (o:=4) (v:=.slice p5 (nk + 1) c5) E0)
 have F2:=(hb7.block _ (by omega)).trans (set_other (o:=4) (v:=.slice p5 (nk + 1) c5) E2 (show w.heap.size + 1 + 1 ≠ w.heap.size by omega))
 have F3 : w7.heap[w6.heap.size]? = some (.cells vc.toArray 26 (0,0)):=by rw [← hw7,← hvc];exact heap_new_at _ _ _ (by simp)
 have own7:=own_below (own_set (b:=w.heap.size) (o:=4) (u:=.slice p5 (nk + 1) c5) own6 (by omega)) hb7
 have own7k:=own_below (own_set (b:=w.heap.size) (o:=4) (u:=.slice p5 (nk + 1) c5) own6k (by omega)) hb7
 have hz7 : w7.heap.size = w6.heap.size + 1:=by rw [← hw7];simp
 have hbw7 : Below w.heap.size w w7:=(hbw6.setCell (Nat.le_refl _) _).trans (hb7.mono (by omega))
 have hvl : vc.length = 6:=by rw [← hvc];rfl
 have hv1 : ∀ u ∈ vc,u.oneCell' = true:=by rw [← hvc];intro u hu;simp at hu;rcases hu with rfl | rfl | rfl | rfl | rfl | rfl <;> rfl
 have hklt : ∀ b,(Value.slice p4 nk c4).ownBlock = some b → b < w6.heap.size:=fun b e => (own6k.lt b e).2
 have HVC:=Lh hvc
 clear hw7 hb7 hs6 own6 own6k E0 E1 E2 hbw6 b0 b1 b2 b3 b4 b5 bf v0 v1 v2 v3 v4 v5 vf hvc
 refine (insOb_in w3.heap.size _ nk i w6.heap.size _ vc w7 own7k (by omega) hile hn (fun e => by have:=hklt _ e;omega) F3 hvl hv1 (hk4.one)).mono ?_
 rintro e w8 ⟨v4,rfl,own8k,hg8⟩
 obtain ⟨p6,c6,rfl⟩:=own_slice own8k
 have G0:=cells_own own7k hg8 (by omega) F0
 have G2:=cells_own own7k hg8 (by omega) F2
 have own8:=own_grown own7 hg8 (own_apart own7 own7k (by decide))
 have hbw8 : Below w.heap.size w w8:=hbw7.grown hg8 hbw7.size (fun k hk => by have:=own_base own7k k hk;omega)
 have hz8:=hg8.size
 clear hg8 own7 own7k F0 F2 F3 hbw7 hklt hv1
 obtain ⟨b0,b1,b2,b3,b4,b5,bf⟩:=six_of G0
 obtain ⟨z0,z1,z2,z3,z4,z5,zf⟩:=six_of G2
 go_wp2
 obtain ⟨wa,hwa⟩ : ∃ wa,w8.setCell ⟨w.heap.size,5,none⟩ (.slice p6 (nk + 1) c6) = wa:=⟨_,rfl⟩
 rw [hwa]
 have H2:=set_other (o:=5) (v:=.slice p6 (nk + 1) c6) G2 (show w.heap.size + 1 + 1 ≠ w.heap.size by omega)
 have owna:=own_set (b:=w.heap.size) (o:=5) (u:=.slice p6 (nk + 1) c6) own8 (by omega)
 have ownak:=own_set (b:=w.heap.size) (o:=5) (u:=.slice p6 (nk + 1) c6) own8k (by omega)
 have hbwa : Below w.heap.size w wa:=by rw [← hwa];exact hbw8.setCell (Nat.le_refl _) _
 rw [hwa] at H2 owna ownak
 obtain ⟨w9,hw9⟩ : ∃ w9,((((((wa.setCell ⟨w.heap.size + 1 + 1,0,none⟩ (.int .i64 o.kind)).setCell ⟨w.heap.size + 1 + 1,1,none⟩ (.int .i64 o.n)).setCell ⟨w.heap.size + 1 + 1,2,none⟩ (.int .i64 o.g)).setCell ⟨w.heap.size + 1 + 1,3,none⟩ (.string ⟨o.s.toArray⟩)).setCell ⟨w.heap.size + 1 + 1,4,none⟩ (.slice p5 (nk + 1) c5)).setCell ⟨w.heap.size + 1 + 1,5,none⟩ (.slice p6 (nk + 1) c6)) = w9:=⟨_,rfl⟩
 rw [hw9]
 have sg9:=set6_grown wa (w.heap.size + 1 + 1) 0 1 2 3 4 5 (.int .i64 o.kind) (.int .i64 o.n) (.int .i64 o.g) (.string ⟨o.s.toArray⟩) (.slice p5 (nk + 1) c5) (.slice p6 (nk + 1) c6)
 have Z:=set_six (v0:=.int .i64 o.kind) (v1:=.int .i64 o.n) (v2:=.int .i64 o.g) (v3:=.string ⟨o.s.toArray⟩) (v4:=.slice p5 (nk + 1) c5) (v5:=.slice p6 (nk + 1) c6) H2
 rw [hw9] at sg9 Z
 have own9:=own_grown (u:=.slice (some ⟨w.heap.size + 1 + 1,0,none⟩) 1 1) owna sg9 (fun b e e' => by have:=own_base owna b e;simp [Value.ownBlock] at e';omega)
 have own9k:=own_grown (u:=.slice (some ⟨w.heap.size + 1 + 1,0,none⟩) 1 1) ownak sg9 (fun b e e' => by have:=own_base ownak b e;simp [Value.ownBlock] at e';omega)
 have hbw9 : Below w.heap.size w w9:=hbwa.grown sg9 hbwa.size (fun k h => by cases h;omega)
 clear hw9 hwa b0 b1 b2 b3 b4 b5 bf z0 z1 z2 z3 z4 z5 zf owna ownak own8 own8k G0 G2 H2
 obtain ⟨s0,s1,s2,s3,s4,s5,sf⟩:=six_of Z
 have hK9 : KidsAt S d w9 (css.take i ++ vc :: css.drop i) (o.kids.take i ++ vo :: o.kids.drop i) :=
   KidsAt.insert (hk4.grow (fun b hb _ => ⟨hb,(hbw9.block b (hS b hb)).trans (hbw4.block b (hS b hb)).symm⟩)) hvl (by rw [← HVC.out];exact HV.out w9 hbw9) (by rw [HND.out];exact hile)
 have hcl : css.length = nk:=by rw [hk4.1];exact HND.out
 have hlk : (o.keys.take i ++ key :: o.keys.drop i).length = nk + 1:=by have:=HNK.out;simp;omega
 have hld : (o.kids.take i ++ vo :: o.kids.drop i).length = nk + 1:=by have:=HND.out;simp;omega
 rw [HLK.out] at own9
 rw [layIn_flat hk4.six (by omega)] at own9k
 rw [← hlk] at own9
 rw [← hld] at own9k
 have hKey:=keysAt_own own9
 have hRow:=kids_at (S':=fun b => b < w9.heap.size ∨ w.heap.size ≤ b) own9k hK9 (fun b hb => .inl (Nat.lt_of_lt_of_le (hS b hb) hbw9.size)) (fun b hb => .inr (by omega))
 have hOb : ObjAt (fun b => b < w9.heap.size ∨ w.heap.size ≤ b) (d + 1) w9 (objCells o.kind o.n o.g o.s (.slice p5 (nk + 1) c5) (.slice p6 (nk + 1) c6)) (o.withK (o.keys.take i ++ key :: o.keys.drop i) (o.kids.take i ++ vo :: o.kids.drop i)) :=
   ⟨_,_,rfl,by rw [← hlk];exact hKey.weaken (fun b hb _ => .inr (by omega)),by rw [← hld];exact hRow⟩
 refine bodyPost_ret (v:=.agg #[.int .i64 o.kind,.int .i64 o.n,.int .i64 o.g,.string ⟨o.s.toArray⟩,.slice p5 (nk + 1) c5,.slice p6 (nk + 1) c6]) (by simp [results,Tryz.results87,go_sem,s0,s1,s2,s3,s4,s5]) rfl ⟨_,rfl,hOb.weaken (fun b _ hb => hb) _,hbw9⟩
theorem sound_in (S : Nat → Prop) (d : Nat) (w : World) (o : Ob) (p1 p2 : Option Addr) (n1 c1 n2 c2 : Nat) (h : ObjAt S d w (objCells o.kind o.n o.g o.s (.slice p1 n1 c1) (.slice p2 n2 c2)) o) (hsm : smallO d o) (hS : ∀ b, S b → b < w.heap.size) (hc : checkB 24 o = 0) :
   Calls Tryz.prog 85 #[.agg (objCells o.kind o.n o.g o.s (.slice p1 n1 c1) (.slice p2 n2 c2)).toArray] w fun e w' => e = .returned (.tuple #[.agg (objCells o.kind o.n o.g o.s (.slice p1 n1 c1) (.slice p2 n2 c2)).toArray,.int .i64 0]) ∧ Below w.heap.size w w':=by
 have HC:=Lh (fun (W : World) (hW : Below w.heap.size w W) => vCheck_in S d W _ o (h.kept (fun b h => hW.block b (hS b h)) d) hsm (fun b h => Nat.lt_of_lt_of_le (hS b h) hW.size))
 rw [hc] at HC
 unfold objCells at HC ⊢
 clear h hsm hS hc
 go_enter Tryz.func85,Tryz.ntmps85
 go_upto_region 1 with fail
 obtain ⟨w0,hw0⟩ : ∃ w0,((w.alloc (.cells #[.int .i64 o.kind,.int .i64 o.n,.int .i64 o.g,.string ⟨o.s.toArray⟩,.slice p1 n1 c1,.slice p2 n2 c2] 26)).alloc (.cells #[.int .i64 0,.int .i64 0,.int .i64 0,.string ⟨#[]⟩,.slice none 0 0,.slice none 0 0] 26)) = w0:=⟨_,rfl⟩
 rw [hw0]
 have A0 : w0.heap[w.heap.size]? = some (.cells #[.int .i64 o.kind,.int .i64 o.n,.int .i64 o.g,.string ⟨o.s.toArray⟩,.slice p1 n1 c1,.slice p2 n2 c2] 26 (0,0)):=by
   rw [← hw0,Below.heap_alloc _ _ _ (by simp)];exact heap_new_at _ _ _ rfl
 have A1 : w0.heap[w.heap.size + 1]? = some (.cells #[.int .i64 0,.int .i64 0,.int .i64 0,.string ⟨#[]⟩,.slice none 0 0,.slice none 0 0] 26 (0,0)):=by
   rw [← hw0];exact heap_new_at _ _ _ (by simp)
 have hbw : Below w.heap.size w w0:=by rw [← hw0];exact bel
 have hz0 : w.heap.size + 2 ≤ w0.heap.size:=by rw [← hw0];simp
 clear hw0
 obtain ⟨b0,b1,b2,b3,b4,b5,bf⟩:=six_of A0
 go_wp2_with fail
 refine (HC.out _ hbw).mono ?_
 rintro e w1 ⟨rfl,hb1⟩
 have A0:=(hb1.block _ (by omega)).trans A0
 have A1:=(hb1.block _ (by omega)).trans A1
 have hbw:=hbw.trans (hb1.mono hbw.size)
 have hz1:=hb1.size
 clear hb1 b0 b1 b2 b3 b4 b5 bf
 obtain ⟨b0,b1,b2,b3,b4,b5,bf⟩:=six_of A0
 obtain ⟨z0,z1,z2,z3,z4,z5,zf⟩:=six_of A1
 go_wp2
 obtain ⟨w9,hw9⟩ : ∃ w9,((((((w1.setCell ⟨w.heap.size + 1,0,none⟩ (.int .i64 o.kind)).setCell ⟨w.heap.size + 1,1,none⟩ (.int .i64 o.n)).setCell ⟨w.heap.size + 1,2,none⟩ (.int .i64 o.g)).setCell ⟨w.heap.size + 1,3,none⟩ (.string ⟨o.s.toArray⟩)).setCell ⟨w.heap.size + 1,4,none⟩ (.slice p1 n1 c1)).setCell ⟨w.heap.size + 1,5,none⟩ (.slice p2 n2 c2)) = w9:=⟨_,rfl⟩
 rw [hw9]
 have sg9:=set6_grown w1 (w.heap.size + 1) 0 1 2 3 4 5 (.int .i64 o.kind) (.int .i64 o.n) (.int .i64 o.g) (.string ⟨o.s.toArray⟩) (.slice p1 n1 c1) (.slice p2 n2 c2)
 have Z:=set_six (v0:=.int .i64 o.kind) (v1:=.int .i64 o.n) (v2:=.int .i64 o.g) (v3:=.string ⟨o.s.toArray⟩) (v4:=.slice p1 n1 c1) (v5:=.slice p2 n2 c2) A1
 rw [hw9] at sg9 Z
 have hbw9 : Below w.heap.size w w9:=hbw.grown sg9 hbw.size (fun k h => by cases h;omega)
 clear hw9 b0 b1 b2 b3 b4 b5 bf z0 z1 z2 z3 z4 z5 zf
 obtain ⟨s0,s1,s2,s3,s4,s5,sf⟩:=six_of Z
 refine bodyPost_ret (v:=.tuple #[.agg #[.int .i64 o.kind,.int .i64 o.n,.int .i64 o.g,.string ⟨o.s.toArray⟩,.slice p1 n1 c1,.slice p2 n2 c2],.int .i64 0]) (by simp [results,Tryz.results85,go_sem,s0,s1,s2,s3,s4,s5]) rfl ⟨rfl,hbw9⟩
def SetOut (d : Nat) (w : World) (P : Ob) (e : Ending) (w' : World) : Prop :=
 ∃ p1 c1 p2 c2,e = .returned (.tuple #[.agg #[.int .i64 P.kind,.int .i64 P.n,.int .i64 P.g,.string ⟨P.s.toArray⟩,.slice p1 P.keys.length c1,.slice p2 P.kids.length c2],.int .i64 0]) ∧
   ObjAt (fun b => w.heap.size ≤ b) d w' (objCells P.kind P.n P.g P.s (.slice p1 P.keys.length c1) (.slice p2 P.kids.length c2)) P ∧ Below w.heap.size w w'
theorem vSet_in (S : Nat → Prop) (d : Nat) (w : World) (cs vcs : List Value) (o vo : Ob) (key : L) (h : ObjAt S (d + 1) w cs o) (hv : ObjAt S d w vcs vo) (hS : ∀ b, S b → b < w.heap.size)
   (h79 : o.kind = 7 ∨ o.kind = 9) (hc : checkB 24 o = 0) (hcP : checkB 24 (putO o key vo) = 0) (hab : key ∉ o.keys) (hvk : vo.kind ≠ 0) (hsm : smallO (d + 1) o) (hsmP : smallO (d + 1) (putO o key vo)) (htP : tameO (d + 1) (putO o key vo)) (hm : o.kids.length ≤ 8191) :
   Calls Tryz.prog 48 #[.agg cs.toArray,.string ⟨key.toArray⟩,.agg vcs.toArray] w (SetOut (d + 1) w (putO o key vo)):=by
 have hko:=(keysB_iff o h79).1 ((checkB_iff 23 o).1 hc).keys
 have HW:=Lh (fun W (hb : Below w.heap.size w W) => with_in S d W cs vcs o vo key (h.kept (fun b h => hb.block b (hS b h)) _) (hv.kept (fun b h => hb.block b (hS b h)) _) (fun b h => Nat.lt_of_lt_of_le (hS b h) hb.size) hab hko.up hko.len (by rw [hko.len];exact hm))
 have HC:=Lh (fun (W : World) (hW : Below w.heap.size w W) => vCheck_in S (d + 1) W _ o (h.kept (fun b h => hW.block b (hS b h)) _) hsm (fun b h => Nat.lt_of_lt_of_le (hS b h) hW.size))
 rw [hc] at HC
 obtain ⟨P,hP⟩ : ∃ P,putO o key vo = P:=⟨_,rfl⟩
 rw [hP] at HW hcP hsmP htP ⊢
 have HCL:=Lh (fun (W : World) cs' (ho : ObjAt (fun b => b < W.heap.size) (d + 1) W cs' P) => vClone_in (fun b => b < W.heap.size) (d + 1) W cs' P ho htP (fun b h => h))
 have HSO:=Lh (fun (W : World) p1 n1 c1 p2 n2 c2 (ho : ObjAt (fun b => b < W.heap.size) (d + 1) W (objCells P.kind P.n P.g P.s (.slice p1 n1 c1) (.slice p2 n2 c2)) P) => sound_in (fun b => b < W.heap.size) (d + 1) W P p1 p2 n1 c1 n2 c2 ho hsmP (fun b h => h) hcP)
 obtain ⟨p1,n1,c1,p2,n2,c2,rfl⟩:=h.shape
 obtain ⟨q1,m1,e1,q2,m2,e2,rfl⟩:=hv.shape
 unfold objCells at HW HC HSO
 have HK:=Lh (fun W => keyed_in o p1 p2 n1 c1 n2 c2 W)
 have hkk : (o.kind == 7 || o.kind == 9) = true:=by rcases h79 with h | h <;> rw [h] <;> rfl
 rw [hkk] at HK
 have d0 : (vo.kind == 0) = false:=by simpa using hvk
 unfold objCells
 clear h hv hS h79 hc hcP hab hvk hsm hsmP htP hm hko hP hkk
 go_enter Tryz.func48,Tryz.ntmps48
 go_upto_region 1 with fail
 obtain ⟨w0,hw0⟩ : ∃ w0,(((w.alloc (.cells #[.int .i64 o.kind,.int .i64 o.n,.int .i64 o.g,.string ⟨o.s.toArray⟩,.slice p1 n1 c1,.slice p2 n2 c2] 26)).alloc (.cells #[.int .i64 vo.kind,.int .i64 vo.n,.int .i64 vo.g,.string ⟨vo.s.toArray⟩,.slice q1 m1 e1,.slice q2 m2 e2] 26)).alloc (.cells #[.int .i64 0,.int .i64 0,.int .i64 0,.string ⟨#[]⟩,.slice none 0 0,.slice none 0 0] 26)) = w0:=⟨_,rfl⟩
 rw [hw0]
 have A0 : w0.heap[w.heap.size]? = some (.cells #[.int .i64 o.kind,.int .i64 o.n,.int .i64 o.g,.string ⟨o.s.toArray⟩,.slice p1 n1 c1,.slice p2 n2 c2] 26 (0,0)):=by
   rw [← hw0,Below.heap_alloc _ _ _ (by simp;omega),Below.heap_alloc _ _ _ (by simp)];exact heap_new_at _ _ _ rfl
 have A1 : w0.heap[w.heap.size + 1]? = some (.cells #[.int .i64 vo.kind,.int .i64 vo.n,.int .i64 vo.g,.string ⟨vo.s.toArray⟩,.slice q1 m1 e1,.slice q2 m2 e2] 26 (0,0)):=by
   rw [← hw0,Below.heap_alloc _ _ _ (by simp)];exact heap_new_at _ _ _ (by simp)
 have A2 : w0.heap[w.heap.size + 1 + 1]? = some (.cells #[.int .i64 0,.int .i64 0,.int .i64 0,.string ⟨#[]⟩,.slice none 0 0,.slice none 0 0] 26 (0,0)):=by
   rw [← hw0];exact heap_new_at _ _ _ (by simp)
 have hbw : Below w.heap.size w w0:=by rw [← hw0];exact bel
 have hz0 : w0.heap.size = w.heap.size + 3:=by rw [← hw0];simp
 clear hw0
 obtain ⟨b0,b1,b2,b3,b4,b5,bf⟩:=six_of A0
 go_wp2_with fail
 refine (HK.out _).mono ?_
 rintro e w1 ⟨rfl,hb1⟩
 have A0:=(hb1.block _ (by omega)).trans A0
 have A1:=(hb1.block _ (by omega)).trans A1
 have A2:=(hb1.block _ (by omega)).trans A2
 have hbw:=hbw.trans (hb1.mono hbw.size)
 have hzw1:=hb1.size
 clear hb1 b0 b1 b2 b3 b4 b5 bf
 obtain ⟨b0,b1,b2,b3,b4,b5,bf⟩:=six_of A0
 go_wp2_with fail
 refine (HC.out _ hbw).mono ?_
 rintro e w2 ⟨rfl,hb1⟩
 have A0:=(hb1.block _ (by omega)).trans A0
 have A1:=(hb1.block _ (by omega)).trans A1
 have A2:=(hb1.block _ (by omega)).trans A2
 have hbw:=hbw.trans (hb1.mono hbw.size)
 have hzw2:=hb1.size
 clear hb1 b0 b1 b2 b3 b4 b5 bf
 obtain ⟨b0,b1,b2,b3,b4,b5,bf⟩:=six_of A0
 obtain ⟨v0,v1,v2,v3,v4,v5,vf⟩:=six_of A1
 go_wp2_with fail
 refine (HW.out _ hbw).mono ?_
 rintro e w3 ⟨cs',rfl,hO3,hb1⟩
 have A0:=(hb1.block _ (by omega)).trans A0
 have A1:=(hb1.block _ (by omega)).trans A1
 have A2:=(hb1.block _ (by omega)).trans A2
 have hbw:=hbw.trans (hb1.mono hbw.size)
 have hzw3:=hb1.size
 clear hb1 b0 b1 b2 b3 b4 b5 bf
 obtain ⟨b0,b1,b2,b3,b4,b5,bf⟩:=six_of A0
 clear v0 v1 v2 v3 v4 v5 vf
 have HC3:=HCL.out w3 cs' hO3
 obtain ⟨r1,k1,f1,r2,k2,f2,rfl⟩:=hO3.shape
 unfold objCells at HC3
 go_wp2_with fail
 refine HC3.mono ?_
 rintro e w4 ⟨r1,f1,r2,f2,rfl,hO4,hb1⟩
 have hz3:=hbw.size
 have A0:=(hb1.block _ (by omega)).trans A0
 have A1:=(hb1.block _ (by omega)).trans A1
 have A2:=(hb1.block _ (by omega)).trans A2
 have hbw:=hbw.trans (hb1.mono hbw.size)
 have hzw4:=hb1.size
 clear hb1 b0 b1 b2 b3 b4 b5 bf
 obtain ⟨b0,b1,b2,b3,b4,b5,bf⟩:=six_of A0
 have HS4:=HSO.out w4 _ _ _ _ _ _ (hO4.weaken (fun b _ hb => hb) _)
 go_wp2_with fail
 refine HS4.mono ?_
 rintro e w5 ⟨rfl,hb1⟩
 have hO5:=hO4.grow (S':=fun b => w3.heap.size ≤ b ∧ b < w4.heap.size) (w':=w5) (fun b h1 h2 => ⟨⟨h1,h2⟩,hb1.block b h2⟩)
 have A0:=(hb1.block _ (by omega)).trans A0
 have A1:=(hb1.block _ (by omega)).trans A1
 have A2:=(hb1.block _ (by omega)).trans A2
 have hbw:=hbw.trans (hb1.mono hbw.size)
 have hzw5:=hb1.size
 clear hb1 b0 b1 b2 b3 b4 b5 bf
 obtain ⟨b0,b1,b2,b3,b4,b5,bf⟩:=six_of A0
 obtain ⟨z0,z1,z2,z3,z4,z5,zf⟩:=six_of A2
 clear HS4 HC3 hO3 hO4
 go_wp2
 obtain ⟨w9,hw9⟩ : ∃ w9,((((((w5.setCell ⟨w.heap.size + 1 + 1,0,none⟩ (.int .i64 P.kind)).setCell ⟨w.heap.size + 1 + 1,1,none⟩ (.int .i64 P.n)).setCell ⟨w.heap.size + 1 + 1,2,none⟩ (.int .i64 P.g)).setCell ⟨w.heap.size + 1 + 1,3,none⟩ (.string ⟨P.s.toArray⟩)).setCell ⟨w.heap.size + 1 + 1,4,none⟩ (.slice r1 P.keys.length f1)).setCell ⟨w.heap.size + 1 + 1,5,none⟩ (.slice r2 P.kids.length f2)) = w9:=⟨_,rfl⟩
 rw [hw9]
 have sg9:=set6_grown w5 (w.heap.size + 1 + 1) 0 1 2 3 4 5 (.int .i64 P.kind) (.int .i64 P.n) (.int .i64 P.g) (.string ⟨P.s.toArray⟩) (.slice r1 P.keys.length f1) (.slice r2 P.kids.length f2)
 have Z:=set_six (v0:=.int .i64 P.kind) (v1:=.int .i64 P.n) (v2:=.int .i64 P.g) (v3:=.string ⟨P.s.toArray⟩) (v4:=.slice r1 P.keys.length f1) (v5:=.slice r2 P.kids.length f2) A2
 rw [hw9] at sg9 Z
 have hbw9 : Below w.heap.size w w9:=hbw.grown sg9 hbw.size (fun k h => by cases h;omega)
 have hO9:=hO5.grow (S':=fun b => w.heap.size ≤ b) (w':=w9) (fun b h1 h2 => ⟨by omega,sg9.block b h2 (fun e => by cases e;omega)⟩)
 clear hw9 b0 b1 b2 b3 b4 b5 bf z0 z1 z2 z3 z4 z5 zf
 obtain ⟨s0,s1,s2,s3,s4,s5,sf⟩:=six_of Z
 refine bodyPost_ret (v:=.tuple #[.agg #[.int .i64 P.kind,.int .i64 P.n,.int .i64 P.g,.string ⟨P.s.toArray⟩,.slice r1 P.keys.length f1,.slice r2 P.kids.length f2],.int .i64 0]) (by simp [results,Tryz.results48,go_sem,s0,s1,s2,s3,s4,s5]) rfl ⟨_,_,_,_,rfl,hO9,hbw9⟩
end Go.Proofs.YtfgdhcemidlnfaaGreatDoor
