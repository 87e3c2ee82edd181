/- Parts of the proof: RefE RefF Unhex Name RefG HexL RefI RefJ Esc RefK Str Text. -/
import Derived.Test.YtfgdhcemidlnfaaGreatDoorPpl
import Derived.Deep.DeepCutAuto
import Derived.Test.YtfgdhcemidlnfaaGreatDoorPpa
import Derived.Test.YtfgdhcemidlnfaaGreatDoorPpc
import Derived.Deep.QuietTactic
import Derived.BigQuiet
import Derived.Deep.RegionWith
set_option linter.all false
set_option maxRecDepth 100000
set_option maxHeartbeats 8000000
namespace Go.Proofs.YtfgdhcemidlnfaaGreatDoor
open Go.RowKit Fo
theorem rform_long (s : ByteArray) (hs : 40 < s.size) (w : World) :
   Calls Tryz.prog 204 #[.string s] w fun e w' => e = FormOut false none ∧ w' = w:=by
 go_enter Tryz.func204,Tryz.ntmps204
 go_wp2
 refine bodyPost_ret (v:=.tuple #[.string ⟨#[]⟩,.string ⟨#[]⟩,.bool false,.bool false]) (by simp [results,Tryz.results204,go_sem]) rfl ⟨rfl,rfl⟩
theorem rwithin (n : Int) (w : World) : Calls Tryz.prog 205 #[.int .i64 n] w fun e w' => e = .returned (.bool (decide (-1073741824 ≤ n ∧ n ≤ 1073741824))) ∧ w' = w:=by
 by_cases h1 : n < -1073741824
 · go_enter Tryz.func205,Tryz.ntmps205
   go_wp2
   go_ret
   exact ⟨ret_bool (by first | (simp;done) | (simp;omega)),rfl⟩
 · by_cases h2 : 1073741824 < n
   · go_enter Tryz.func205,Tryz.ntmps205
     go_wp2
     go_ret
     exact ⟨ret_bool (by first | (simp;done) | (simp;omega)),rfl⟩
   · go_enter Tryz.func205,Tryz.ntmps205
     go_wp2
     go_ret
     exact ⟨ret_bool (by first | (simp;done) | (simp;omega)),rfl⟩
theorem rform_some (s : ByteArray) (hs : s.size ≤ 40) (mn : Bool) (W P : L) (hmn : minus s.data.toList = mn) (hf : formS [] [] false (unsigned s.data.toList) = some (W, P)) (h0 : 0 < W.length + P.length) (w : World) :
   Calls Tryz.prog 204 #[.string s] w fun e w' => e = .returned (.tuple #[.string ⟨W.toArray⟩,.string ⟨P.toArray⟩,.bool mn,.bool true]) ∧ w' = w:=by
 have:=rform s hs w
 rw [hmn,hf] at this
 have e : FormOut mn (some (W,P)) = .returned (.tuple #[.string ⟨W.toArray⟩,.string ⟨P.toArray⟩,.bool mn,.bool true]):=by
   rw [FormOut,decide_eq_true h0]
 rw [e] at this
 exact this
def satV (v : Nat) (l : L) : Nat:=l.foldl (fun v c => min (10 * v + (c.toNat - 48)) 1099511627776) v
def valF (v : Nat) (l : L) : Nat:=l.foldl (fun v c => 10 * v + (c.toNat - 48)) v
theorem satV_val (l : L) : ∀ (v u : Nat),u = min v 1099511627776 → satV u l = min (valF v l) 1099511627776:=by
 induction l with
 | nil => intro v u h;exact h
 | cons c l ih =>
   intro v u h
   unfold satV valF at ih ⊢
   rw [List.foldl_cons,List.foldl_cons]
   exact ih _ _ (by omega)
theorem rwithin_as (n : Int) (b : Bool) (h : decide (-1073741824 ≤ n ∧ n ≤ 1073741824) = b) (w : World) : Calls Tryz.prog 205 #[.int .i64 n] w fun e w' => e = .returned (.bool b) ∧ w' = w:=by
 have:=rwithin n w
 rw [h] at this
 exact this
theorem all_text (W P : L) : ((ByteArray.mk W.toArray) ++ ((ByteArray.mk P.toArray) ++ ByteArray.mk #[48,48,48,48]).extract 0 4).data.toList = W ++ part4 P:=by
 simp [part4,List.extract_eq_take_drop]
def moreB (mn : Bool) (r : L) : Bool:=if mn then overHalf r else atHalf r
theorem rfix_ok (s : ByteArray) (hs : s.size ≤ 40) (mn : Bool) (W P : L) (hmn : minus s.data.toList = mn) (hf : formS [] [] false (unsigned s.data.toList) = some (W, P)) (hWP : W.length + P.length ≤ 40) (h0 : 0 < W.length + P.length)
   (hd : (W ++ part4 P).all isDig = true) (hdp : P.all isDig = true) (w : World) (V : Nat) (hV : valF 0 (W ++ part4 P) = V) :
   Calls Tryz.prog 163 #[.string s] w fun e w' => e = WholeOut (if 1073741824 < (if moreB mn (P.drop 4) then V + 1 else V) then .bad 2 else .good (if mn then -((if moreB mn (P.drop 4) then V + 1 else V : Nat) : Int) else (if moreB mn (P.drop 4) then V + 1 else V : Nat))) ∧ w' = w:=by
 obtain ⟨T,hT⟩ : ∃ T,(if 1073741824 < (if moreB mn (P.drop 4) then V + 1 else V) then Res.bad 2 else .good (if mn then -((if moreB mn (P.drop 4) then V + 1 else V : Nat) : Int) else (if moreB mn (P.drop 4) then V + 1 else V : Nat))) = T:=⟨_,rfl⟩
 rw [hT]
 have HT:=Lh hT
 clear hT
 have HF:=Lh (fun w => rform_some s hs mn W P hmn hf h0 w)
 have y1 : P.length + 4 ≤ 9223372036854775807:=by omega
 have y2 : W.length + 4 ≤ 9223372036854775807:=by omega
 have y3 : min 4 (P.length + 4) = 4:=by omega
 have y4 : (4 : Int) ≤ (P.length : Int) + 4:=by omega
 have y5 : 4 ≤ P.length + 4:=by omega
 have HD:=Lh hd
 have HDP:=Lh hdp
 have HV:=Lh hV
 clear hmn hf h0 hd hdp hV
 go_enter Tryz.func163,Tryz.ntmps163
 go_wp2_with fail
 refine (HF.out _).mono ?_
 rintro e w1 ⟨rfl,rfl⟩
 go_wp2
 obtain ⟨A,hA⟩ : ∃ A,(ByteArray.mk W.toArray) ++ ((ByteArray.mk P.toArray) ++ ByteArray.mk #[48,48,48,48]).extract 0 4 = A:=⟨_,rfl⟩
 have hAl:=all_text W P
 rw [hA] at hAl
 rw [hA]
 have hAs : A.size ≤ 44:=by
   have h1 : A.data.toList.length = A.size:=rfl
   rw [hAl] at h1
   simp [part4] at h1
   omega
 have HS:=Lh (show satV 0 (A.data.toList.drop 0) = min V 1099511627776 by rw [List.drop_zero,hAl,satV_val _ 0 0 rfl,HV.out])
 have HDA:=Lh (show A.data.toList.all isDig = true by rw [hAl];exact HD.out)
 clear hA hAl HD y1 y2 y3 y4 y5
 go_loop [8,10] (fun n i => ∃ (k v : Nat),k ≤ A.size ∧ v ≤ 1099511627776 ∧ i = .int .i64 k ∧ n = .int .i64 v ∧ Hid (satV v (A.data.toList.drop k) = min V 1099511627776)) (fun _ i => A.size - (intOf i).toNat)
 case atStart => exact ⟨0,0,Nat.zero_le _,by omega,rfl,rfl,HS⟩
 case round =>
   obtain ⟨k,v,hk,hv,rfl,rfl,H⟩:=hrel
   clear HS
   by_cases hlt : k < A.size
   · have H1:=H.out
     rw [drop_get A k hlt] at H1
     unfold satV at H1
     rw [List.foldl_cons] at H1
     have hc : isDig A[k] = true:=by
       have:=HDA.out
       rw [List.all_eq_true] at this
       exact this A[k] (List.mem_of_mem_drop (i:=k) (by rw [drop_get A k hlt];simp))
     rw [dig_nat] at hc
     simp only [decide_eq_true_eq] at hc
     obtain ⟨hc1,hc2⟩:=hc
     obtain ⟨c,hcc⟩ : ∃ c,A[k].toNat = c:=⟨_,rfl⟩
     rw [hcc] at H1 hc1 hc2
     have hci : ((A[k].toNat : Nat) : Int) = c:=by rw [hcc]
     have H2:=Lh H1
     clear H1 H hcc
     by_cases hm : 10 * v + (c - 48) ≤ 1099511627776
     · have hm2 : 10 * (v : Int) + (c - 48) ≤ 1099511627776:=by omega
       go_wp2
       go_round
       case rel => exact ⟨k + 1,10 * v + (c - 48),by omega,by omega,by go_num,(by congr 1;omega),Lh (by have:=H2.out;rw [Nat.min_eq_left hm] at this;exact this)⟩
       case measure => simp [intOf];omega
     · have hm2 : ¬ 10 * (v : Int) + (c - 48) ≤ 1099511627776:=by omega
       go_wp2
       go_round
       case rel => exact ⟨k + 1,1099511627776,by omega,by omega,by go_num,(by congr 1;omega),Lh (by have:=H2.out;rw [Nat.min_eq_right (by omega)] at this;exact this)⟩
       case measure => simp [intOf];omega
   · have hvV : v = min V 1099511627776:=by have:=H.out;rw [List.drop_eq_nil_of_le (by simp;omega)] at this;exact this
     have HvV:=Lh hvV
     clear H hvV HDA
     by_cases h4 : 4 < P.length
     · have y1 : (4 : Int) < P.length:=by omega
       have y2 : (4 : Int) ≤ P.length:=by omega
       have y3 : 4 ≤ P.length:=by omega
       go_upto_region 13 with fail
       obtain ⟨r,hr⟩ : ∃ r,(ByteArray.mk P.toArray).extract 4 P.length = r:=⟨_,rfl⟩
       have hrl : r.data.toList = P.drop 4:=by rw [← hr];exact Lib.extract_to_end ⟨P.toArray⟩ 4
       rw [hr]
       have hrs : 0 < r.size:=by
         have h1 : r.data.toList.length = r.size:=rfl
         rw [hrl,List.length_drop] at h1;omega
       have hr40 : r.size ≤ 40:=by
         have h1 : r.data.toList.length = r.size:=rfl
         rw [hrl,List.length_drop] at h1;omega
       have hne : r.toList.isEmpty = false:=by
         rw [Lib.toList_data,List.isEmpty_eq_false_iff]
         intro h;have : r.data.toList.length = r.size:=rfl;rw [h] at this;simp at this;omega
       have HDR:=Lh (show r.data.toList.all isDig = true by
         have:=HDP.out
         rw [hrl,List.all_eq_true];rw [List.all_eq_true] at this
         exact fun x hx => this x (List.mem_of_mem_drop hx))
       have hcons : P.drop 4 = r[0] :: r.data.toList.drop 1:=by
         have:=drop_get r 0 hrs
         rw [List.drop_zero] at this
         rw [← hrl];exact this
       have HCN:=Lh hcons
       clear hr hrl hcons y1 y2 y3
       by_cases h53 : r[0].toNat < 53
       · have q1 : ¬ (53 : Int) ≤ r[0].toNat:=by omega
         have hc53 : ¬ (53 : UInt8) ≤ r[0]:=by rw [UInt8.le_iff_toNat_le];show ¬ 53 ≤ r[0].toNat;omega
         cases mn
         · have MB:=Lh (show moreB false (P.drop 4) = false by rw [HCN.out];simpa [moreB,atHalf] using hc53)
           clear hc53 h53
           by_cases hbig : 1073741824 < V
           · have hv2:=HvV.out
             have HWI:=Lh (fun W => rwithin_as ((v : Int)) false (by first | (simp;done) | (simp;omega)) W)
             have HO:=Lh (show T = .bad 2 by rw [← HT.out,MB.out];simp;omega)
             clear hv2
             go_wp2_with fail
             refine (HWI.out _).mono ?_
             rintro e w2 ⟨rfl,rfl⟩
             go_wp2
             refine bodyPost_ret (v:=.tuple #[.int .i64 0,.int .i64 2]) (by simp [results,Tryz.results163,go_sem]) rfl ⟨by rw [HO.out];rfl,rfl⟩
           · have hv2:=HvV.out
             have HWI:=Lh (fun W => rwithin_as ((v : Int)) true (by first | (simp;done) | (simp;omega)) W)
             have HO:=Lh (show T = .good ((v : Int)) by rw [← HT.out,MB.out];simp;first | omega | (rw [if_neg (by omega)];congr 1;omega))
             clear hv2
             go_wp2_with fail
             refine (HWI.out _).mono ?_
             rintro e w2 ⟨rfl,rfl⟩
             go_wp2
             refine bodyPost_ret (v:=.tuple #[.int .i64 ((v : Int)),.int .i64 0]) (by simp [results,Tryz.results163,go_sem]) rfl ⟨by rw [HO.out];rfl,rfl⟩
         · have MB := Lib.hid (show moreB true (P.drop 4) = false by
             rw [HCN.out]
             have g1 : ¬ (53 : UInt8) < r[0]:=by rw [UInt8.lt_iff_toNat_lt];show ¬ 53 < r[0].toNat;omega
             have g2 : ¬ r[0] = 53:=by intro h;rw [h] at h53;revert h53;decide
             simp [moreB,overHalf,g1,g2])
           clear hc53 h53
           by_cases hbig : 1073741824 < V
           · have hv2:=HvV.out
             have HWI:=Lh (fun W => rwithin_as (-(v : Int)) false (by first | (simp;done) | (simp;omega)) W)
             have HO:=Lh (show T = .bad 2 by rw [← HT.out,MB.out];simp;omega)
             clear hv2
             go_wp2_with fail
             refine (HWI.out _).mono ?_
             rintro e w2 ⟨rfl,rfl⟩
             go_wp2
             refine bodyPost_ret (v:=.tuple #[.int .i64 0,.int .i64 2]) (by simp [results,Tryz.results163,go_sem]) rfl ⟨by rw [HO.out];rfl,rfl⟩
           · have hv2:=HvV.out
             have HWI:=Lh (fun W => rwithin_as (-(v : Int)) true (by first | (simp;done) | (simp;omega)) W)
             have HO:=Lh (show T = .good (-(v : Int)) by rw [← HT.out,MB.out];simp;first | omega | (rw [if_neg (by omega)];congr 1;omega))
             clear hv2
             go_wp2_with fail
             refine (HWI.out _).mono ?_
             rintro e w2 ⟨rfl,rfl⟩
             go_wp2
             refine bodyPost_ret (v:=.tuple #[.int .i64 (-(v : Int)),.int .i64 0]) (by simp [results,Tryz.results163,go_sem]) rfl ⟨by rw [HO.out];rfl,rfl⟩
       · have q1 : (53 : Int) ≤ r[0].toNat:=by omega
         have hc53 : (53 : UInt8) ≤ r[0]:=by rw [UInt8.le_iff_toNat_le];show 53 ≤ r[0].toNat;omega
         cases mn
         · have MB:=Lh (show moreB false (P.drop 4) = true by rw [HCN.out];simpa [moreB,atHalf] using hc53)
           clear hc53 h53
           by_cases hbig : 1073741824 < (V + 1)
           · have hv2:=HvV.out
             have HWI:=Lh (fun W => rwithin_as ((v : Int) + 1) false (by first | (simp;done) | (simp;omega)) W)
             have HO:=Lh (show T = .bad 2 by rw [← HT.out,MB.out];simp;omega)
             clear hv2
             go_wp2_with fail
             refine (HWI.out _).mono ?_
             rintro e w2 ⟨rfl,rfl⟩
             go_wp2
             refine bodyPost_ret (v:=.tuple #[.int .i64 0,.int .i64 2]) (by simp [results,Tryz.results163,go_sem]) rfl ⟨by rw [HO.out];rfl,rfl⟩
           · have hv2:=HvV.out
             have HWI:=Lh (fun W => rwithin_as ((v : Int) + 1) true (by first | (simp;done) | (simp;omega)) W)
             have HO:=Lh (show T = .good ((v : Int) + 1) by rw [← HT.out,MB.out];simp;first | omega | (rw [if_neg (by omega)];congr 1;omega))
             clear hv2
             go_wp2_with fail
             refine (HWI.out _).mono ?_
             rintro e w2 ⟨rfl,rfl⟩
             go_wp2
             refine bodyPost_ret (v:=.tuple #[.int .i64 ((v : Int) + 1),.int .i64 0]) (by simp [results,Tryz.results163,go_sem]) rfl ⟨by rw [HO.out];rfl,rfl⟩
         · obtain ⟨M,hM⟩ : ∃ M,moreB true (P.drop 4) = M:=⟨_,rfl⟩
           have MBH:=Lh hM
           rw [HCN.out] at hM
           by_cases h54 : 53 < r[0].toNat
           · have q2 : (53 : Int) < r[0].toNat:=by omega
             have HM:=Lh (show (true || (r.data.toList.drop 1).any (· != 48)) = M by
               have g1 : (53 : UInt8) < r[0]:=by rw [UInt8.lt_iff_toNat_lt];show 53 < r[0].toNat;omega
               rw [← hM];simp [moreB,overHalf,g1])
             clear hM hc53 h53 h54
             go_wp2
             go_loop [13,14] (fun sm i => ∃ (k : Nat) (b : Bool),1 ≤ k ∧ k ≤ r.size ∧ i = .int .i64 k ∧ sm = .bool b ∧ Hid ((b || (r.data.toList.drop k).any (· != 48)) = M)) (fun _ i => r.size - (intOf i).toNat)
             case atStart => exact ⟨1,true,Nat.le_refl _,by omega,rfl,rfl,HM⟩
             case round =>
               obtain ⟨j,b,hj1,hj,rfl,rfl,H⟩:=hrel
               clear HM
               by_cases hlt2 : j < r.size
               · have H1:=H.out
                 rw [drop_get r j hlt2,List.any_cons] at H1
                 have hdj : 48 ≤ r[j].toNat:=by
                   have:=HDR.out
                   rw [List.all_eq_true] at this
                   have:=this r[j] (List.mem_of_mem_drop (i:=j) (by rw [drop_get r j hlt2];simp))
                   rw [dig_nat] at this;simp at this;omega
                 cases b
                 · by_cases h48 : 48 < r[j].toNat
                   · have H2 := Lib.hid (show (true || (r.data.toList.drop (j + 1)).any (· != 48)) = M by
                       have : (r[j] != 48) = true:=by simp;intro h;rw [h] at h48;revert h48;decide
                       rw [this] at H1;simpa using H1)
                     have q1 : (48 : Int) < r[j].toNat:=by omega
                     clear H1 H h48 hdj
                     go_wp2
                     go_round
                     case rel => exact ⟨j + 1,true,by omega,by omega,by go_num,rfl,H2⟩
                     case measure => simp [intOf];omega
                   · have H2 := Lib.hid (show (false || (r.data.toList.drop (j + 1)).any (· != 48)) = M by
                       have : (r[j] != 48) = false:=by simp;exact UInt8.toNat.inj (by show r[j].toNat = 48;omega)
                       rw [this] at H1;simpa using H1)
                     have q1 : ¬ (48 : Int) < r[j].toNat:=by omega
                     clear H1 H h48 hdj
                     go_wp2
                     go_round
                     case rel => exact ⟨j + 1,false,by omega,by omega,by go_num,rfl,H2⟩
                     case measure => simp [intOf];omega
                 · have H2:=Lh (show (true || (r.data.toList.drop (j + 1)).any (· != 48)) = M by simpa using H1)
                   clear H1 H hdj
                   go_wp2
                   go_round
                   case rel => exact ⟨j + 1,true,by omega,by omega,by go_num,rfl,H2⟩
                   case measure => simp [intOf];omega
               · have hM : b = M:=by have:=H.out;rw [List.drop_eq_nil_of_le (by simp;omega)] at this;simpa using this
                 subst hM
                 clear H
                 cases b
                 · have MB:=Lh MBH.out
                   by_cases hbig : 1073741824 < V
                   · have hv2:=HvV.out
                     have HWI:=Lh (fun W => rwithin_as (-(v : Int)) false (by first | (simp;done) | (simp;omega)) W)
                     have HO:=Lh (show T = .bad 2 by rw [← HT.out,MB.out];simp;omega)
                     clear hv2
                     go_wp2_with fail
                     refine (HWI.out _).mono ?_
                     rintro e w2 ⟨rfl,rfl⟩
                     go_wp2
                     refine bodyPost_ret (v:=.tuple #[.int .i64 0,.int .i64 2]) (by simp [results,Tryz.results163,go_sem]) rfl ⟨by rw [HO.out];rfl,rfl⟩
                   · have hv2:=HvV.out
                     have HWI:=Lh (fun W => rwithin_as (-(v : Int)) true (by first | (simp;done) | (simp;omega)) W)
                     have HO:=Lh (show T = .good (-(v : Int)) by rw [← HT.out,MB.out];simp;first | omega | (rw [if_neg (by omega)];congr 1;omega))
                     clear hv2
                     go_wp2_with fail
                     refine (HWI.out _).mono ?_
                     rintro e w2 ⟨rfl,rfl⟩
                     go_wp2
                     refine bodyPost_ret (v:=.tuple #[.int .i64 (-(v : Int)),.int .i64 0]) (by simp [results,Tryz.results163,go_sem]) rfl ⟨by rw [HO.out];rfl,rfl⟩
                 · have MB:=Lh MBH.out
                   by_cases hbig : 1073741824 < (V + 1)
                   · have hv2:=HvV.out
                     have HWI:=Lh (fun W => rwithin_as (-((v : Int) + 1)) false (by first | (simp;done) | (simp;omega)) W)
                     have HO:=Lh (show T = .bad 2 by rw [← HT.out,MB.out];simp;omega)
                     clear hv2
                     go_wp2_with fail
                     refine (HWI.out _).mono ?_
                     rintro e w2 ⟨rfl,rfl⟩
                     go_wp2
                     refine bodyPost_ret (v:=.tuple #[.int .i64 0,.int .i64 2]) (by simp [results,Tryz.results163,go_sem]) rfl ⟨by rw [HO.out];rfl,rfl⟩
                   · have hv2:=HvV.out
                     have HWI:=Lh (fun W => rwithin_as (-((v : Int) + 1)) true (by first | (simp;done) | (simp;omega)) W)
                     have HO:=Lh (show T = .good (-((v : Int) + 1)) by rw [← HT.out,MB.out];simp;first | omega | (rw [if_neg (by omega)];congr 1;omega))
                     clear hv2
                     go_wp2_with fail
                     refine (HWI.out _).mono ?_
                     rintro e w2 ⟨rfl,rfl⟩
                     go_wp2
                     refine bodyPost_ret (v:=.tuple #[.int .i64 (-((v : Int) + 1)),.int .i64 0]) (by simp [results,Tryz.results163,go_sem]) rfl ⟨by rw [HO.out];rfl,rfl⟩
           · have q2 : ¬ (53 : Int) < r[0].toNat:=by omega
             have HM:=Lh (show (false || (r.data.toList.drop 1).any (· != 48)) = M by
               have g1 : ¬ (53 : UInt8) < r[0]:=by rw [UInt8.lt_iff_toNat_lt];show ¬ 53 < r[0].toNat;omega
               have g2 : r[0] = 53:=UInt8.toNat.inj (by show r[0].toNat = 53;omega)
               rw [← hM];simp [moreB,overHalf,g2])
             clear hM hc53 h53 h54
             go_wp2
             go_loop [13,14] (fun sm i => ∃ (k : Nat) (b : Bool),1 ≤ k ∧ k ≤ r.size ∧ i = .int .i64 k ∧ sm = .bool b ∧ Hid ((b || (r.data.toList.drop k).any (· != 48)) = M)) (fun _ i => r.size - (intOf i).toNat)
             case atStart => exact ⟨1,false,Nat.le_refl _,by omega,rfl,rfl,HM⟩
             case round =>
               obtain ⟨j,b,hj1,hj,rfl,rfl,H⟩:=hrel
               clear HM
               by_cases hlt2 : j < r.size
               · have H1:=H.out
                 rw [drop_get r j hlt2,List.any_cons] at H1
                 have hdj : 48 ≤ r[j].toNat:=by
                   have:=HDR.out
                   rw [List.all_eq_true] at this
                   have:=this r[j] (List.mem_of_mem_drop (i:=j) (by rw [drop_get r j hlt2];simp))
                   rw [dig_nat] at this;simp at this;omega
                 cases b
                 · by_cases h48 : 48 < r[j].toNat
                   · have H2 := Lib.hid (show (true || (r.data.toList.drop (j + 1)).any (· != 48)) = M by
                       have : (r[j] != 48) = true:=by simp;intro h;rw [h] at h48;revert h48;decide
                       rw [this] at H1;simpa using H1)
                     have q1 : (48 : Int) < r[j].toNat:=by omega
                     clear H1 H h48 hdj
                     go_wp2
                     go_round
                     case rel => exact ⟨j + 1,true,by omega,by omega,by go_num,rfl,H2⟩
                     case measure => simp [intOf];omega
                   · have H2 := Lib.hid (show (false || (r.data.toList.drop (j + 1)).any (· != 48)) = M by
                       have : (r[j] != 48) = false:=by simp;exact UInt8.toNat.inj (by show r[j].toNat = 48;omega)
                       rw [this] at H1;simpa using H1)
                     have q1 : ¬ (48 : Int) < r[j].toNat:=by omega
                     clear H1 H h48 hdj
                     go_wp2
                     go_round
                     case rel => exact ⟨j + 1,false,by omega,by omega,by go_num,rfl,H2⟩
                     case measure => simp [intOf];omega
                 · have H2:=Lh (show (true || (r.data.toList.drop (j + 1)).any (· != 48)) = M by simpa using H1)
                   clear H1 H hdj
                   go_wp2
                   go_round
                   case rel => exact ⟨j + 1,true,by omega,by omega,by go_num,rfl,H2⟩
                   case measure => simp [intOf];omega
               · have hM : b = M:=by have:=H.out;rw [List.drop_eq_nil_of_le (by simp;omega)] at this;simpa using this
                 subst hM
                 clear H
                 cases b
                 · have MB:=Lh MBH.out
                   by_cases hbig : 1073741824 < V
                   · have hv2:=HvV.out
                     have HWI:=Lh (fun W => rwithin_as (-(v : Int)) false (by first | (simp;done) | (simp;omega)) W)
                     have HO:=Lh (show T = .bad 2 by rw [← HT.out,MB.out];simp;omega)
                     clear hv2
                     go_wp2_with fail
                     refine (HWI.out _).mono ?_
                     rintro e w2 ⟨rfl,rfl⟩
                     go_wp2
                     refine bodyPost_ret (v:=.tuple #[.int .i64 0,.int .i64 2]) (by simp [results,Tryz.results163,go_sem]) rfl ⟨by rw [HO.out];rfl,rfl⟩
                   · have hv2:=HvV.out
                     have HWI:=Lh (fun W => rwithin_as (-(v : Int)) true (by first | (simp;done) | (simp;omega)) W)
                     have HO:=Lh (show T = .good (-(v : Int)) by rw [← HT.out,MB.out];simp;first | omega | (rw [if_neg (by omega)];congr 1;omega))
                     clear hv2
                     go_wp2_with fail
                     refine (HWI.out _).mono ?_
                     rintro e w2 ⟨rfl,rfl⟩
                     go_wp2
                     refine bodyPost_ret (v:=.tuple #[.int .i64 (-(v : Int)),.int .i64 0]) (by simp [results,Tryz.results163,go_sem]) rfl ⟨by rw [HO.out];rfl,rfl⟩
                 · have MB:=Lh MBH.out
                   by_cases hbig : 1073741824 < (V + 1)
                   · have hv2:=HvV.out
                     have HWI:=Lh (fun W => rwithin_as (-((v : Int) + 1)) false (by first | (simp;done) | (simp;omega)) W)
                     have HO:=Lh (show T = .bad 2 by rw [← HT.out,MB.out];simp;omega)
                     clear hv2
                     go_wp2_with fail
                     refine (HWI.out _).mono ?_
                     rintro e w2 ⟨rfl,rfl⟩
                     go_wp2
                     refine bodyPost_ret (v:=.tuple #[.int .i64 0,.int .i64 2]) (by simp [results,Tryz.results163,go_sem]) rfl ⟨by rw [HO.out];rfl,rfl⟩
                   · have hv2:=HvV.out
                     have HWI:=Lh (fun W => rwithin_as (-((v : Int) + 1)) true (by first | (simp;done) | (simp;omega)) W)
                     have HO:=Lh (show T = .good (-((v : Int) + 1)) by rw [← HT.out,MB.out];simp;first | omega | (rw [if_neg (by omega)];congr 1;omega))
                     clear hv2
                     go_wp2_with fail
                     refine (HWI.out _).mono ?_
                     rintro e w2 ⟨rfl,rfl⟩
                     go_wp2
                     refine bodyPost_ret (v:=.tuple #[.int .i64 (-((v : Int) + 1)),.int .i64 0]) (by simp [results,Tryz.results163,go_sem]) rfl ⟨by rw [HO.out];rfl,rfl⟩
     · have y1 : ¬ (4 : Int) < P.length:=by omega
       have HN:=Lh (show P.drop 4 = [] from List.drop_eq_nil_of_le (by omega))
       clear h4
       cases mn
       · have MB:=Lh (show moreB false (P.drop 4) = false by rw [HN.out];rfl)
         by_cases hbig : 1073741824 < V
         · have hv2:=HvV.out
           have HWI:=Lh (fun W => rwithin_as ((v : Int)) false (by first | (simp;done) | (simp;omega)) W)
           have HO:=Lh (show T = .bad 2 by rw [← HT.out,MB.out];simp;omega)
           clear hv2
           go_wp2_with fail
           refine (HWI.out _).mono ?_
           rintro e w2 ⟨rfl,rfl⟩
           go_wp2
           refine bodyPost_ret (v:=.tuple #[.int .i64 0,.int .i64 2]) (by simp [results,Tryz.results163,go_sem]) rfl ⟨by rw [HO.out];rfl,rfl⟩
         · have hv2:=HvV.out
           have HWI:=Lh (fun W => rwithin_as ((v : Int)) true (by first | (simp;done) | (simp;omega)) W)
           have HO:=Lh (show T = .good ((v : Int)) by rw [← HT.out,MB.out];simp;first | omega | (rw [if_neg (by omega)];congr 1;omega))
           clear hv2
           go_wp2_with fail
           refine (HWI.out _).mono ?_
           rintro e w2 ⟨rfl,rfl⟩
           go_wp2
           refine bodyPost_ret (v:=.tuple #[.int .i64 ((v : Int)),.int .i64 0]) (by simp [results,Tryz.results163,go_sem]) rfl ⟨by rw [HO.out];rfl,rfl⟩
       · have MB:=Lh (show moreB true (P.drop 4) = false by rw [HN.out];rfl)
         by_cases hbig : 1073741824 < V
         · have hv2:=HvV.out
           have HWI:=Lh (fun W => rwithin_as (-(v : Int)) false (by first | (simp;done) | (simp;omega)) W)
           have HO:=Lh (show T = .bad 2 by rw [← HT.out,MB.out];simp;omega)
           clear hv2
           go_wp2_with fail
           refine (HWI.out _).mono ?_
           rintro e w2 ⟨rfl,rfl⟩
           go_wp2
           refine bodyPost_ret (v:=.tuple #[.int .i64 0,.int .i64 2]) (by simp [results,Tryz.results163,go_sem]) rfl ⟨by rw [HO.out];rfl,rfl⟩
         · have hv2:=HvV.out
           have HWI:=Lh (fun W => rwithin_as (-(v : Int)) true (by first | (simp;done) | (simp;omega)) W)
           have HO:=Lh (show T = .good (-(v : Int)) by rw [← HT.out,MB.out];simp;first | omega | (rw [if_neg (by omega)];congr 1;omega))
           clear hv2
           go_wp2_with fail
           refine (HWI.out _).mono ?_
           rintro e w2 ⟨rfl,rfl⟩
           go_wp2
           refine bodyPost_ret (v:=.tuple #[.int .i64 (-(v : Int)),.int .i64 0]) (by simp [results,Tryz.results163,go_sem]) rfl ⟨by rw [HO.out];rfl,rfl⟩
theorem rfread_bad (s : ByteArray) (mn : Bool) (R : Option (L × L)) (hf : ∀ w, Calls Tryz.prog 204 #[.string s] w fun e w' => e = FormOut mn R ∧ w' = w) (hR : R = none ∨ R = some ([], [])) (w : World) :
   Calls Tryz.prog 163 #[.string s] w fun e w' => e = WholeOut (.bad 3) ∧ w' = w:=by
 have HF:=Lh hf
 clear hf
 rcases hR with rfl | rfl
 · unfold FormOut at HF
   go_enter Tryz.func163,Tryz.ntmps163
   go_wp2_with fail
   refine (HF.out _).mono ?_
   rintro e w1 ⟨rfl,rfl⟩
   go_wp2
   refine bodyPost_ret (v:=.tuple #[.int .i64 0,.int .i64 3]) (by simp [results,Tryz.results163,go_sem]) rfl ⟨rfl,rfl⟩
 · have e1 : FormOut mn (some ([],[])) = .returned (.tuple #[.string ⟨#[]⟩,.string ⟨#[]⟩,.bool mn,.bool false]):=rfl
   rw [e1] at HF
   clear e1
   go_enter Tryz.func163,Tryz.ntmps163
   go_wp2_with fail
   refine (HF.out _).mono ?_
   rintro e w1 ⟨rfl,rfl⟩
   go_wp2
   refine bodyPost_ret (v:=.tuple #[.int .i64 0,.int .i64 3]) (by simp [results,Tryz.results163,go_sem]) rfl ⟨rfl,rfl⟩
theorem unsigned_len (l : L) : (unsigned l).length ≤ l.length:=by
 cases l with
 | nil => simp [unsigned]
 | cons c l => rw [unsigned];split <;> simp
theorem dot_len (l : L) : (preDot l).length + (postDot l).length ≤ l.length:=by
 have:=congrArg List.length (List.takeWhile_append_dropWhile (p:=fun c : UInt8 => c != 46) (l:=l))
 rw [List.length_append] at this
 unfold preDot postDot
 rw [List.length_drop]
 omega
theorem part4_dig {l : L} (h : l.all isDig = true) : (part4 l).all isDig = true:=by
 unfold part4
 rw [List.all_eq_true]
 intro x hx
 have hx:=List.mem_of_mem_take hx
 rw [List.mem_append] at hx
 rcases hx with hx | hx
 · exact List.all_eq_true.1 h x hx
 · simp at hx;subst hx;rfl
theorem rread (s : ByteArray) (w : World) : Calls Tryz.prog 163 #[.string s] w fun e w' => e = WholeOut (fixV s.data.toList) ∧ w' = w:=by
 have hl : s.data.toList.length = s.size:=rfl
 by_cases hs : s.size ≤ 40
 · have hform:=fun w => rform s hs w
   rw [formS_pre,List.nil_append,List.nil_append] at hform
   unfold fixV
   rw [if_neg (by omega)]
   cases hd : (allDig (preDot (unsigned s.data.toList)) && allDig (postDot (unsigned s.data.toList)))
   · rw [hd,if_neg (by simp)] at hform
     have hd2 : (!allDig (preDot (unsigned s.data.toList)) || !allDig (postDot (unsigned s.data.toList))) = true:=by
       revert hd;cases allDig (preDot (unsigned s.data.toList)) <;> cases allDig (postDot (unsigned s.data.toList)) <;> simp
     have:=rfread_bad s _ none hform (.inl rfl) w
     split
     · exact this
     · first | exact this | (rw [if_pos hd2];exact this)
   · rw [hd,if_pos rfl] at hform
     have hd2 : (!allDig (preDot (unsigned s.data.toList)) || !allDig (postDot (unsigned s.data.toList))) = false:=by
       revert hd;cases allDig (preDot (unsigned s.data.toList)) <;> cases allDig (postDot (unsigned s.data.toList)) <;> simp
     rw [Bool.and_eq_true] at hd
     have hlen:=dot_len (unsigned s.data.toList)
     have hul:=unsigned_len s.data.toList
     by_cases he : (preDot (unsigned s.data.toList) ++ postDot (unsigned s.data.toList)).isEmpty = true
     · rw [if_pos he]
       have h0:=List.isEmpty_iff.1 he
       rw [List.append_eq_nil_iff] at h0
       rw [h0.1,h0.2] at hform
       exact rfread_bad s _ _ hform (.inr rfl) w
     · rw [if_neg he,hd2,if_neg (by simp)]
       have h0 : 0 < (preDot (unsigned s.data.toList)).length + (postDot (unsigned s.data.toList)).length:=by
         rcases Nat.eq_zero_or_pos ((preDot (unsigned s.data.toList)).length + (postDot (unsigned s.data.toList)).length) with h | h
         · exact absurd (by rw [List.isEmpty_iff,List.append_eq_nil_iff];exact ⟨List.eq_nil_of_length_eq_zero (by omega),List.eq_nil_of_length_eq_zero (by omega)⟩) he
         · exact h
       have hf : formS [] [] false (unsigned s.data.toList) = some (preDot (unsigned s.data.toList),postDot (unsigned s.data.toList)):=by
         rw [formS_pre,hd.1,hd.2];rfl
       have:=rfix_ok s hs (minus s.data.toList) _ _ rfl hf (by omega) h0 (by rw [List.all_append,Bool.and_eq_true];exact ⟨hd.1,part4_dig hd.2⟩) hd.2 w _ rfl
       exact this
 · have:=rfread_bad s _ _ (fun w => rform_long s (by omega) w) (.inl rfl) w
   unfold fixV
   rw [if_pos (by omega)]
   exact this
def WordOut (R : Res Tok) (e : Ending) : Prop :=
 match R with
 | .bad k => ∃ kd n : Int,e = .returned (.tuple #[.agg #[.int .i64 kd,.int .i64 0,.int .i64 0,.int .i64 n,.string ⟨#[]⟩],.int .i64 k])
 | .good t => e = .returned (.tuple #[.agg #[.int .i64 t.kind,.int .i64 0,.int .i64 0,.int .i64 t.n,.string ⟨t.s.toArray⟩],.int .i64 0])
theorem fixV_codes {l : L} {k : Int} (h : fixV l = .bad k) : k = 2 ∨ k = 3:=by
 unfold fixV at h
 dsimp only at h
 repeat' split at h
 all_goals first | (cases h;exact .inl rfl) | (cases h;exact .inr rfl) | (cases h;done)
theorem five_at {w : World} {b : Nat} {t : TypeId} {v0 v1 v2 v3 v4 : Value} (h : w.heap[b]? = some (.cells #[v0, v1, v2, v3, v4] t (0, 0))) :
   w.cell? ⟨b,0,none⟩ = some v0 ∧ w.cell? ⟨b,1,none⟩ = some v1 ∧ w.cell? ⟨b,2,none⟩ = some v2 ∧ w.cell? ⟨b,3,none⟩ = some v3 ∧ w.cell? ⟨b,4,none⟩ = some v4 ∧ ∀ o,w.frozen? ⟨b,o,none⟩ = false:=by
 simp [World.cell?,World.frozen?,h]
theorem new_at (w : World) (o : Go.Obj) : (w.alloc o).heap[w.heap.size]? = some o:=by
 show (w.heap.push o)[w.heap.size]? = some o
 simp
theorem str_self (s : ByteArray) : (⟨s.data.toList.toArray⟩ : ByteArray) = s:=by cases s;simp
theorem rlong_bad (s : ByteArray) (hs : s.size ≤ 140737488355327) (hi : isInt s.data.toList = false) (w : World) :
   Calls Tryz.prog 159 #[.string s] w fun e w' => e = .returned (.tuple #[.agg #[.int .i64 0,.int .i64 0,.int .i64 0,.int .i64 0,.string ⟨#[]⟩],.int .i64 5]) ∧ Below w.heap.size w w':=by
 have HI:=Lh (fun w => rinteger s hs w)
 rw [hi] at HI
 clear hi
 go_enter Tryz.func159,Tryz.ntmps159
 go_wp2_with fail
 refine (HI.out _).mono ?_
 rintro e w2 ⟨rfl,rfl⟩
 go_wp2
 refine bodyPost_ret (v:=.tuple #[.agg #[.int .i64 0,.int .i64 0,.int .i64 0,.int .i64 0,.string ⟨#[]⟩],.int .i64 5]) (by simp [results,Tryz.results159,go_sem]) rfl ⟨?_,bel⟩
 rfl
theorem rlong_int (s : ByteArray) (hs : s.size ≤ 140737488355327) (hi : isInt s.data.toList = true) (n k : Int) (hw : WholeOut (wholeV s.data.toList) = .returned (.tuple #[.int .i64 n, .int .i64 k])) (w : World) :
   Calls Tryz.prog 159 #[.string s] w fun e w' => e = .returned (.tuple #[.agg #[.int .i64 1,.int .i64 0,.int .i64 0,.int .i64 n,.string ⟨#[]⟩],.int .i64 k]) ∧ Below w.heap.size w w':=by
 have HI:=Lh (fun w => rinteger s hs w)
 have HW:=Lh (fun w => rwhole s hs hi w)
 rw [hi] at HI
 rw [hw] at HW
 clear hi hw
 go_enter Tryz.func159,Tryz.ntmps159
 go_wp2_with fail
 refine (HI.out _).mono ?_
 rintro e w2 ⟨rfl,rfl⟩
 go_wp2_with fail
 refine (HW.out _).mono ?_
 rintro e w2 ⟨rfl,rfl⟩
 go_wp2
 refine bodyPost_ret (v:=.tuple #[.agg #[.int .i64 1,.int .i64 0,.int .i64 0,.int .i64 n,.string ⟨#[]⟩],.int .i64 k]) (by simp [results,Tryz.results159,go_sem]) rfl ⟨?_,bel⟩
 rfl
theorem rword (s : ByteArray) (hs : s.size ≤ 140737488355327) (w : World) :
   Calls Tryz.prog 106 #[.string s] w fun e w' => WordOut (wordT s.data.toList) e ∧ Below w.heap.size w w':=by
 have hl : s.data.toList.length = s.size:=rfl
 have HI:=Lh (fun w => rinteger s hs w)
 cases hi : isInt s.data.toList
 · rw [hi] at HI
   by_cases h508 : 508 < s.size
   · have HG:=Lh (fun w => rlong_bad s hs hi w)
     have HO:=Lh (show wordT s.data.toList = .bad 5 by
       unfold wordT told
       rw [hi]
       have hx : fixV s.data.toList = .bad 3:=by unfold fixV;rw [if_pos (by omega)]
       rw [hx]
       simp;omega)
     clear hi hl
     go_enter Tryz.func106,Tryz.ntmps106
     go_wp2_with fail
     refine (HG.out _).mono ?_
     rintro e w2 ⟨rfl,hb2⟩
     obtain ⟨d0,d1,d2,d3,d4,df⟩:=five_at ((hb2.block _ (by simp)).trans (new_at w _))
     go_wp2
     refine bodyPost_ret (v:=.tuple #[.agg #[.int .i64 0,.int .i64 0,.int .i64 0,.int .i64 0,.string ⟨#[]⟩],.int .i64 5]) (by simp [results,Tryz.results106,go_sem,d0,d1,d2,d3,d4,df]) rfl ⟨?_,bel⟩
     rw [HO.out]
     exact ⟨_,_,rfl⟩
   · have HP:=Lh (fun w => rpoint s hs w)
     cases hp : s.data.toList.contains 46
     · rw [hp] at HP
       by_cases h127 : 127 < s.size
       · have HO:=Lh (show wordT s.data.toList = .bad 5 by unfold wordT told;rw [hi,hp];simp;omega)
         clear hi hp hl
         go_enter Tryz.func106,Tryz.ntmps106
         go_wp2_with fail
         refine (HI.out _).mono ?_
         rintro e w2 ⟨rfl,rfl⟩
         go_wp2_with fail
         refine (HP.out _).mono ?_
         rintro e w2 ⟨rfl,rfl⟩
         go_wp2
         refine bodyPost_ret (v:=.tuple #[.agg #[.int .i64 0,.int .i64 0,.int .i64 0,.int .i64 0,.string ⟨#[]⟩],.int .i64 5]) (by simp [results,Tryz.results106,go_sem]) rfl ⟨?_,bel⟩
         rw [HO.out]
         exact ⟨_,_,rfl⟩
       · have HO:=Lh (show wordT s.data.toList = .good ⟨5,s.size,0,s.data.toList⟩ by unfold wordT told;rw [hi,hp];simp;omega)
         clear hi hp hl
         go_enter Tryz.func106,Tryz.ntmps106
         go_wp2_with fail
         refine (HI.out _).mono ?_
         rintro e w2 ⟨rfl,rfl⟩
         go_wp2_with fail
         refine (HP.out _).mono ?_
         rintro e w2 ⟨rfl,rfl⟩
         go_wp2
         refine bodyPost_ret (v:=.tuple #[.agg #[.int .i64 5,.int .i64 0,.int .i64 0,.int .i64 0,.string s],.int .i64 0]) (by simp [results,Tryz.results106,go_sem]) rfl ⟨?_,bel⟩
         rw [HO.out,WordOut,str_self]
     · have HR:=Lh (fun w => rread s w)
       rw [hp] at HP
       cases hx : fixV s.data.toList with
       | good n =>
         rw [hx] at HR
         unfold WholeOut at HR
         have HO:=Lh (show wordT s.data.toList = .good ⟨2,s.size,n,[]⟩ by unfold wordT;rw [hi,hp,hx];rfl)
         clear hi hp hl hx
         go_enter Tryz.func106,Tryz.ntmps106
         go_wp2_with fail
         refine (HI.out _).mono ?_
         rintro e w2 ⟨rfl,rfl⟩
         go_wp2_with fail
         refine (HP.out _).mono ?_
         rintro e w2 ⟨rfl,rfl⟩
         go_wp2_with fail
         refine (HR.out _).mono ?_
         rintro e w2 ⟨rfl,rfl⟩
         go_wp2
         refine bodyPost_ret (v:=.tuple #[.agg #[.int .i64 2,.int .i64 0,.int .i64 0,.int .i64 n,.string ⟨#[]⟩],.int .i64 0]) (by simp [results,Tryz.results106,go_sem]) rfl ⟨?_,bel⟩
         rw [HO.out]
         rfl
       | bad k =>
         rw [hx] at HR
         unfold WholeOut at HR
         rcases fixV_codes hx with rfl | rfl
         · have HO:=Lh (show wordT s.data.toList = .bad 2 by unfold wordT;rw [hi,hp,hx];rfl)
           clear hi hp hl hx
           go_enter Tryz.func106,Tryz.ntmps106
           go_wp2_with fail
           refine (HI.out _).mono ?_
           rintro e w2 ⟨rfl,rfl⟩
           go_wp2_with fail
           refine (HP.out _).mono ?_
           rintro e w2 ⟨rfl,rfl⟩
           go_wp2_with fail
           refine (HR.out _).mono ?_
           rintro e w2 ⟨rfl,rfl⟩
           go_wp2
           refine bodyPost_ret (v:=.tuple #[.agg #[.int .i64 2,.int .i64 0,.int .i64 0,.int .i64 0,.string ⟨#[]⟩],.int .i64 2]) (by simp [results,Tryz.results106,go_sem]) rfl ⟨?_,bel⟩
           rw [HO.out]
           exact ⟨_,_,rfl⟩
         · by_cases h127 : 127 < s.size
           · have HO:=Lh (show wordT s.data.toList = .bad 5 by unfold wordT told;rw [hi,hp,hx];simp;omega)
             clear hi hp hl hx
             go_enter Tryz.func106,Tryz.ntmps106
             go_wp2_with fail
             refine (HI.out _).mono ?_
             rintro e w2 ⟨rfl,rfl⟩
             go_wp2_with fail
             refine (HP.out _).mono ?_
             rintro e w2 ⟨rfl,rfl⟩
             go_wp2_with fail
             refine (HR.out _).mono ?_
             rintro e w2 ⟨rfl,rfl⟩
             go_wp2
             refine bodyPost_ret (v:=.tuple #[.agg #[.int .i64 0,.int .i64 0,.int .i64 0,.int .i64 0,.string ⟨#[]⟩],.int .i64 5]) (by simp [results,Tryz.results106,go_sem]) rfl ⟨?_,bel⟩
             rw [HO.out]
             exact ⟨_,_,rfl⟩
           · have HO:=Lh (show wordT s.data.toList = .good ⟨5,s.size,0,s.data.toList⟩ by unfold wordT told;rw [hi,hp,hx];simp;omega)
             clear hi hp hl hx
             go_enter Tryz.func106,Tryz.ntmps106
             go_wp2_with fail
             refine (HI.out _).mono ?_
             rintro e w2 ⟨rfl,rfl⟩
             go_wp2_with fail
             refine (HP.out _).mono ?_
             rintro e w2 ⟨rfl,rfl⟩
             go_wp2_with fail
             refine (HR.out _).mono ?_
             rintro e w2 ⟨rfl,rfl⟩
             go_wp2
             refine bodyPost_ret (v:=.tuple #[.agg #[.int .i64 5,.int .i64 0,.int .i64 0,.int .i64 0,.string s],.int .i64 0]) (by simp [results,Tryz.results106,go_sem]) rfl ⟨?_,bel⟩
             rw [HO.out,WordOut,str_self]
 · rw [hi] at HI
   obtain ⟨n,k,hw,hO⟩ : ∃ n k : Int,WholeOut (wholeV s.data.toList) = .returned (.tuple #[.int .i64 n,.int .i64 k]) ∧ WordOut (wordT s.data.toList) (.returned (.tuple #[.agg #[.int .i64 1,.int .i64 0,.int .i64 0,.int .i64 n,.string ⟨#[]⟩],.int .i64 k])):=by
     unfold wordT
     rw [if_pos hi]
     cases hv : wholeV s.data.toList with
     | bad k => exact ⟨0,k,rfl,_,_,rfl⟩
     | good n => exact ⟨n,0,rfl,rfl⟩
   have HO:=Lh hO
   by_cases h508 : 508 < s.size
   · have HG:=Lh (fun w => rlong_int s hs hi n k hw w)
     clear hi hl hO hw
     go_enter Tryz.func106,Tryz.ntmps106
     go_wp2_with fail
     refine (HG.out _).mono ?_
     rintro e w2 ⟨rfl,hb2⟩
     obtain ⟨d0,d1,d2,d3,d4,df⟩:=five_at ((hb2.block _ (by simp)).trans (new_at w _))
     go_wp2
     refine bodyPost_ret (v:=.tuple #[.agg #[.int .i64 1,.int .i64 0,.int .i64 0,.int .i64 n,.string ⟨#[]⟩],.int .i64 k]) (by simp [results,Tryz.results106,go_sem,d0,d1,d2,d3,d4,df]) rfl ⟨?_,bel⟩
     exact HO.out
   · have HW:=Lh (fun w => rwhole s hs hi w)
     rw [hw] at HW
     clear hi hl hO hw
     go_enter Tryz.func106,Tryz.ntmps106
     go_wp2_with fail
     refine (HI.out _).mono ?_
     rintro e w2 ⟨rfl,rfl⟩
     go_wp2_with fail
     refine (HW.out _).mono ?_
     rintro e w2 ⟨rfl,rfl⟩
     go_wp2
     refine bodyPost_ret (v:=.tuple #[.agg #[.int .i64 1,.int .i64 0,.int .i64 0,.int .i64 n,.string ⟨#[]⟩],.int .i64 k]) (by simp [results,Tryz.results106,go_sem]) rfl ⟨?_,bel⟩
     exact HO.out
def cellByte : Option Value → UInt8
 | some (.int .u8 n) => UInt8.ofNat n.toNat
 | _ => 0
def isByte : Option Value → Bool
 | some (.int .u8 _) => true
 | _ => false
theorem conv_one (w : World) (g : Nat) (h : isByte (w.cell? ⟨g,0,none⟩) = true) : (Go.convert 98 9 (.slice (some ⟨g,0,none⟩) 1 1)).run Tryz.prog w = .ok (.string ⟨#[cellByte (w.cell? ⟨g,0,none⟩)]⟩) w:=by
 obtain ⟨n,hn⟩ : ∃ n,w.cell? ⟨g,0,none⟩ = some (.int .u8 n):=by
   revert h;generalize w.cell? ⟨g,0,none⟩ = x;intro h
   unfold isByte at h;split at h
   · exact ⟨_,rfl⟩
   · simp at h
 rw [run_convert_bytes_string w _ _ 5 _ _ _ Tryz.underlying98 Tryz.underlying5 Tryz.underlying9]
 rw [run_bytesToString w _ _ _ [n],hn]
 · rfl
 · have hc := run_loadCells_list (P := Tryz.prog) (w := w) ⟨g, 0, none⟩ [Value.int .u8 n] (by
     intro j u hj
     rcases j with _ | j
     · simp at hj;subst hj;exact hn
     · simp at hj)
   simpa using hc
theorem digit_lt (c : Nat) : digit c < 16:=by unfold digit;repeat' split <;> omega
def tokR (a : Nat) : Res Tok → Value
 | .bad e => .tuple #[.agg #[.int .i64 0,.int .i64 0,.int .i64 0,.int .i64 0,.string ⟨#[]⟩],.int .i64 e]
 | .good t => .tuple #[.agg #[.int .i64 t.kind,.int .i64 a,.int .i64 (a + t.len : Nat),.int .i64 t.n,.string ⟨t.s.toArray⟩],.int .i64 0]
def cutL (s : ByteArray) (k tt : Nat) : L:=(s.data.toList.drop k).take (tt - k)
theorem cutL_cons (s : ByteArray) (k tt : Nat) (h : k < tt) (ht : tt ≤ s.size) : cutL s k tt = s[k] :: cutL s (k + 1) tt:=by
 unfold cutL
 rw [drop_get s k (by omega),show tt - k = (tt - (k + 1)) + 1 by omega,List.take_succ_cons]
theorem cutL_nil (s : ByteArray) (k : Nat) : cutL s k k = []:=by simp [cutL]
theorem nameS_end {acc : L} : nameS acc 0 [] = .good acc:=by simp [nameS]
theorem nameS_plain {acc : L} {c : UInt8} {l : L} (h : ¬ c = 35) : nameS acc 0 (c :: l) = nameS (acc ++ [c]) 0 l:=by simp [nameS,h]
theorem nameS_short {acc : L} {s : ByteArray} {k tt : Nat} (h : k < tt) (ht : tt ≤ s.size) (hc : s[k] = 35) (h2 : tt ≤ k + 2) : nameS acc 0 (cutL s k tt) = .bad 3:=by
 rw [cutL_cons s k tt h ht,hc]
 have hl : (cutL s (k + 1) tt).length ≤ 1:=by simp [cutL];omega
 cases hx : cutL s (k + 1) tt with
 | nil => simp [nameS]
 | cons a l =>
   cases l with
   | nil => simp [nameS]
   | cons b l => rw [hx] at hl;simp at hl
theorem nameS_bad {acc : L} {s : ByteArray} {k tt : Nat} (h : k + 2 < tt) (ht : tt ≤ s.size) (hc : s[k] = 35) (h2 : hexv s[k + 1] < (0 : Int) ∨ hexv s[k + 2] < (0 : Int) ∨ (16 : Int) * hexv s[k + 1] + hexv s[k + 2] = (0 : Int)) : nameS acc 0 (cutL s k tt) = .bad 3:=by
 rw [cutL_cons s k tt (by omega) ht,hc,cutL_cons s (k + 1) tt (by omega) ht,cutL_cons s (k + 2) tt (by omega) ht]
 simp [nameS,h2]
theorem nameS_hex {acc : L} {s : ByteArray} {k tt : Nat} (h : k + 2 < tt) (ht : tt ≤ s.size) (hc : s[k] = 35) (h2 : ¬ (hexv s[k + 1] < (0 : Int) ∨ hexv s[k + 2] < (0 : Int) ∨ (16 : Int) * hexv s[k + 1] + hexv s[k + 2] = (0 : Int))) :
   nameS acc 0 (cutL s k tt) = nameS (acc ++ [UInt8.ofNat ((16 : Int) * hexv s[k + 1] + hexv s[k + 2]).toNat]) 0 (cutL s (k + 3) tt):=by
 rw [cutL_cons s k tt (by omega) ht,hc,cutL_cons s (k + 1) tt (by omega) ht,cutL_cons s (k + 2) tt (by omega) ht]
 simp [nameS,h2]
def NameOut : Res L → Value
 | .bad e => .tuple #[.string ⟨#[]⟩,.int .i64 e]
 | .good x => if 127 < x.length then .tuple #[.string ⟨#[]⟩,.int .i64 5] else .tuple #[.string ⟨x.toArray⟩,.int .i64 0]
theorem digit_ge (c : Nat) : -1 ≤ digit c:=by unfold digit;repeat' split <;> omega
theorem rname (s : ByteArray) (hs : s.size ≤ 140737488355327) (w : World) :
   Calls Tryz.prog 103 #[.string s] w fun e w' => e = .returned (NameOut (nameS [] 0 s.data.toList)) ∧ Below w.heap.size w w':=by
 have hc0 : cutL s 0 s.size = s.data.toList:=by
   simp only [cutL,List.drop_zero,Nat.sub_zero]
   exact List.take_of_length_le (Nat.le_refl _)
 obtain ⟨T,hT⟩ : ∃ T,nameS [] 0 (cutL s 0 s.size) = T:=⟨_,rfl⟩
 rw [← hc0,hT]
 have HT:=Lh hT
 clear hT hc0
 go_enter Tryz.func103,Tryz.ntmps103
 go_wp2
 go_loopw [4,5] (fun v i wr => ∃ (k : Nat) (acc : L),k ≤ s.size ∧ i = .int .i64 k ∧ ownB wr w.heap.size v acc ∧ acc.length ≤ k ∧ Below w.heap.size w wr ∧ Hid (nameS acc 0 (cutL s k s.size) = T)) (fun _ i _ => s.size - (intOf i).toNat)
 case atStart => exact ⟨0,[],by omega,by go_num,ownB_nil _ _,by simp,Below.refl _ _,HT⟩
 case round =>
   obtain ⟨k,acc,hk2,rfl,hown,hacc,hbr,H⟩:=hrel
   have hBr : w.heap.size ≤ wr.heap.size:=hbr.size
   clear HT
   by_cases hlt : k < s.size
   · by_cases h35 : s[k] = 35
     · have t35 : ((s[k].toNat : Int) == 35) = true:=eq_yes (n:=35) (by decide) h35
       by_cases h2 : s.size ≤ k + 2
       · have HX:=Lh (H.out.symm.trans (nameS_short hlt (by omega) h35 h2))
         clear h35 H
         have q1 : (s.size : Int) ≤ (k : Int) + 2:=by omega
         go_wp2
         refine bodyPost_ret (v:=.tuple #[.string ⟨#[]⟩,.int .i64 3]) (by simp [results,Tryz.results103,go_sem]) rfl ⟨by rw [HX.out];rfl,bel⟩
       · have h3 : k + 2 < s.size:=by omega
         have q1 : ¬ (s.size : Int) ≤ (k : Int) + 2:=by omega
         have D1:=Lh (fun W => rdigit s[k + 1] W)
         have D2:=Lh (fun W => rdigit s[k + 2] W)
         obtain ⟨u1,hu1⟩ : ∃ u,hexv s[k + 1] = u:=⟨_,rfl⟩
         obtain ⟨u2,hu2⟩ : ∃ u,hexv s[k + 2] = u:=⟨_,rfl⟩
         have U:=Lh (And.intro hu1 hu2)
         have hv2 : -1 ≤ u1 ∧ u1 < 16:=by rw [← hu1];exact ⟨digit_ge _,digit_lt _⟩
         have hv3 : -1 ≤ u2 ∧ u2 < 16:=by rw [← hu2];exact ⟨digit_ge _,digit_lt _⟩
         rw [hu1] at D1
         rw [hu2] at D2
         have H35:=Lh h35
         clear hu1 hu2 h35
         go_wp2
         have r1 : (0 : Int) ≤ (k : Int) + 1:=by omega
         have r2 : (0 : Int) ≤ (k : Int) + 2:=by omega
         have r3 : ((k : Int) + 1).toNat = k + 1:=by omega
         have r4 : ((k : Int) + 2).toNat = k + 2:=by omega
         have r5 : k + 1 < s.size:=by omega
         have r6 : (k : Int) + 1 < s.size:=by omega
         have r7 : (k : Int) + 2 < s.size:=by omega
         have b8 : -9223372036854775808 ≤ (k : Int) + 1 ∧ (k : Int) + 1 ≤ 9223372036854775807:=⟨by omega,by omega⟩
         have b9 : -9223372036854775808 ≤ (k : Int) + 2 ∧ (k : Int) + 2 ≤ 9223372036854775807:=⟨by omega,by omega⟩
         have r8:=IntWalk.i64_in _ b8
         have r9:=IntWalk.i64_in _ b9
         clear b8 b9
         go_quiet ((go_at_call 156;first | (with_reducible exact Calls.quiet_of_same (D1.out _)) | (with_reducible exact Calls.quiet_of_same (D2.out _))))
         clear r8 r9
         by_cases hn1 : u1 < 0
         · have HX:=Lh (H.out.symm.trans (nameS_bad h3 (by omega) H35.out (.inl (by rw [U.out.1];exact hn1))))
           clear H
           go_wp2
           refine bodyPost_ret (v:=.tuple #[.string ⟨#[]⟩,.int .i64 3]) (by simp [results,Tryz.results103,go_sem]) rfl ⟨by rw [HX.out];rfl,bel⟩
         by_cases hn2 : u2 < 0
         · have HX:=Lh (H.out.symm.trans (nameS_bad h3 (by omega) H35.out (.inr (.inl (by rw [U.out.2];exact hn2)))))
           clear H
           go_wp2
           refine bodyPost_ret (v:=.tuple #[.string ⟨#[]⟩,.int .i64 3]) (by simp [results,Tryz.results103,go_sem]) rfl ⟨by rw [HX.out];rfl,bel⟩
         by_cases hn3 : (16 : Int) * u1 + u2 = 0
         · have HX:=Lh (H.out.symm.trans (nameS_bad h3 (by omega) H35.out (.inr (.inr (by rw [U.out.1,U.out.2];exact hn3)))))
           have z1 : ((16 : Int) * u1 + u2 == 0) = true:=by simpa using hn3
           clear H hn3
           go_wp2
           refine bodyPost_ret (v:=.tuple #[.string ⟨#[]⟩,.int .i64 3]) (by simp [results,Tryz.results103,go_sem]) rfl ⟨by rw [HX.out];rfl,bel⟩
         · have z1 : ((16 : Int) * u1 + u2 == 0) = false:=by simpa using hn3
           have HX:=Lh (H.out.symm.trans (nameS_hex h3 (by omega) H35.out (by rw [U.out.1,U.out.2];omega)))
           rw [U.out.1,U.out.2] at HX
           have hcn : (UInt8.ofNat ((16 : Int) * u1 + u2).toNat).toNat = ((16 : Int) * u1 + u2).toNat:=by simp;omega
           obtain ⟨c,hcc⟩ : ∃ c,UInt8.ofNat ((16 : Int) * u1 + u2).toNat = c:=⟨_,rfl⟩
           rw [hcc] at HX hcn
           have hci : (16 : Int) * u1 + u2 = (c.toNat : Int):=by omega
           have z2 : ((c.toNat : Int) == 0) = false:=by rw [← hci];exact z1
           clear z1
           clear H hn3 hcc hcn
           go_wp2_with (at_builtin;go_must (refine append1 rfl _ _ rfl w.heap.size _ acc _ (ownB_below hown (belowDrewN (Below.refl _ _) _)) rfl rfl (by omega) (belowDrewN hbr nq).size (by omega) (by have:=UInt8.toNat_lt c;omega) ?_);intro v3 w3 hown3 hb3 hz3;replace hb3:=(belowDrewN hbr nq).trans hb3)
           go_roundw
           case rel => exact ⟨k + 3,acc ++ [c],by omega,by go_num,by simpa using hown3,by simp;omega,hb3,HX.out.symm⟩
           case measure => simp [intOf];omega
     · have t35 : ((s[k].toNat : Int) == 35) = false:=eq_no (n:=35) (by decide) h35
       have HX:=Lh (H.out.symm.trans ((congrArg _ (cutL_cons s k _ hlt (by omega))).trans (nameS_plain h35)))
       clear h35 H
       go_wp2_with (at_builtin;go_must (refine append1 rfl _ _ rfl w.heap.size _ acc _ hown rfl rfl (by omega) hBr (by omega) (by have:=UInt8.toNat_lt s[k];omega) ?_);intro v3 w3 hown3 hb3 hz3;replace hb3:=hbr.trans hb3)
       go_roundw
       case rel => exact ⟨k + 1,acc ++ [s[k]],by omega,by go_num,by simpa using hown3,by simp;omega,hb3,HX.out.symm⟩
       case measure => simp [intOf];omega
   · have hk : k = s.size:=by omega
     have hres : T = .good acc:=by have:=H.out;rw [hk,cutL_nil,nameS_end] at this;exact this.symm
     have HX:=Lh hres
     obtain ⟨p,cv,rfl⟩:=ownB_slice hown
     have hcv:=convB hown
     clear H hk hres
     by_cases h127 : 127 < acc.length
     · go_wp2
       refine bodyPost_ret (v:=.tuple #[.string ⟨#[]⟩,.int .i64 5]) (by simp [results,Tryz.results103,go_sem]) rfl ⟨by rw [HX.out,NameOut,if_pos h127],bel⟩
     · go_wp2
       refine bodyPost_ret (v:=.tuple #[.string ⟨acc.toArray⟩,.int .i64 0]) (by simp [results,Tryz.results103,go_sem]) rfl ⟨by rw [HX.out,NameOut,if_neg h127],bel⟩
def hexG : L → Nat → L → Res (L × Nat)
 | _,_,[] => .bad 4
 | acc,n,c :: l => if c == 62 then .good (acc,n + 1) else if 0 ≤ hexv c then hexG (acc ++ [c]) (n + 1) l else if white c then hexG acc (n + 1) l else .bad 3
def pairs : L → L
 | [] => []
 | [a] => [UInt8.ofNat (16 * hexv a).toNat]
 | a :: b :: l => UInt8.ofNat (16 * hexv a + hexv b).toNat :: pairs l
def pairR : Res (L × Nat) → Res (L × Nat)
 | .bad e => .bad e
 | .good (d,n) => .good (pairs d,n)
theorem dig_not_white (c : UInt8) (h : 0 ≤ hexv c) : white c = false:=by
 have:=u8_all (fun c => !(decide (0 ≤ hexv c)) || !white c) (by decide +kernel) c
 simpa [h] using this
theorem pairs_one : ∀ (l : L) (a : UInt8),l.length % 2 = 0 → pairs (l ++ [a]) = pairs l ++ [UInt8.ofNat (16 * hexv a).toNat]
 | [],_,_ => rfl
 | [_],_,h => by simp at h
 | x :: y :: l,a,h => by
   have:=pairs_one l a (by simp at h;omega)
   simp only [List.cons_append,pairs]
   rw [this]
theorem pairs_two : ∀ (l : L) (a b : UInt8),l.length % 2 = 0 → pairs (l ++ [a,b]) = pairs l ++ [UInt8.ofNat (16 * hexv a + hexv b).toNat]
 | [],_,_,_ => rfl
 | [_],_,_,h => by simp at h
 | x :: y :: l,a,b,h => by
   have:=pairs_two l a b (by simp at h;omega)
   simp only [List.cons_append,pairs]
   rw [this]
theorem pairs_odd : ∀ (l : L),l.length % 2 = 1 → pairs (l ++ [48]) = pairs l
 | [],h => by simp at h
 | [a],_ => by
   have : hexv 48 = 0:=by decide
   simp [pairs,this]
 | x :: y :: l,h => by
   have:=pairs_odd l (by simp at h;omega)
   simp only [List.cons_append,pairs]
   rw [this]
theorem hex_two (l : L) : ∀ (acc : L) (n : Nat), acc.length % 2 = 0 →
   hexS (pairs acc) n (-1) l = pairR (hexG acc n l) ∧ ∀ d,0 ≤ hexv d → hexS (pairs acc) n (hexv d) l = pairR (hexG (acc ++ [d]) n l):=by
 induction l with
 | nil => intro acc n h;exact ⟨rfl,fun _ _ => rfl⟩
 | cons c l ih =>
   intro acc n h
   by_cases h62 : c = 62
   · subst h62
     refine ⟨by simp [hexS,hexG,pairR],fun d hd => ?_⟩
     simp only [hexS,hexG,pairR,beq_self_eq_true,if_true,if_pos hd]
     rw [pairs_one acc d h]
   · have e62 : (c == 62) = false:=by simpa using h62
     by_cases hc : 0 ≤ hexv c
     · have hw:=dig_not_white c hc
       have hn : ¬ hexv c < 0:=by omega
       refine ⟨?_,fun d hd => ?_⟩
       · simp only [hexS,hexG,e62,hw,Bool.false_eq_true,if_false,if_neg hn,if_pos hc,if_pos (show (-1 : Int) < 0 by omega)]
         exact (ih acc (n + 1) h).2 c hc
       · simp only [hexS,hexG,e62,hw,Bool.false_eq_true,if_false,if_neg hn,if_pos hc,if_neg (show ¬ hexv d < 0 by omega)]
         rw [← pairs_two acc d c h,List.append_assoc]
         exact (ih (acc ++ [d,c]) (n + 1) (by simp;omega)).1
     · have hn : hexv c < 0:=by omega
       cases hw : white c
       · refine ⟨?_,fun d hd => ?_⟩ <;> simp [hexS,hexG,e62,hw,hn,hc,pairR]
       · refine ⟨?_,fun d hd => ?_⟩
         · simp only [hexS,hexG,e62,hw,Bool.false_eq_true,if_false,if_true,if_neg hc]
           exact (ih acc (n + 1) h).1
         · simp only [hexS,hexG,e62,hw,Bool.false_eq_true,if_false,if_true,if_neg hc]
           exact (ih acc (n + 1) h).2 d hd
theorem runhex (s : ByteArray) (hs : s.size ≤ 140737488355327) (he : s.size % 2 = 0) (hd : ∀ c ∈ s.data.toList, 0 ≤ hexv c) (w : World) :
   Calls Tryz.prog 158 #[.string s] w fun e w' => e = .returned (.tuple #[.string ⟨(pairs s.data.toList).toArray⟩,.int .i64 0]) ∧ Below w.heap.size w w':=by
 obtain ⟨T,hT⟩ : ∃ T,pairs s.data.toList = T:=⟨_,rfl⟩
 rw [hT]
 have HT:=Lh (show [] ++ pairs (s.data.toList.drop 0) = T from hT)
 have HD:=Lh hd
 have e0 : ((s.size : Int) % 2 == 0) = true:=by simp;omega
 have e1 : ((s.size : Int) % 2 != 0) = false:=by simp;omega
 clear hT hd
 go_enter Tryz.func158,Tryz.ntmps158
 go_wp2
 go_loopw [4,5] (fun v i wr => ∃ (k : Nat) (acc : L),k ≤ s.size ∧ k % 2 = 0 ∧ i = .int .i64 k ∧ ownB wr w.heap.size v acc ∧ acc.length ≤ k ∧ Below w.heap.size w wr ∧ Hid (acc ++ pairs (s.data.toList.drop k) = T)) (fun _ i _ => s.size - (intOf i).toNat)
 case atStart => exact ⟨0,[],by omega,rfl,by go_num,ownB_nil _ _,by simp,Below.refl _ _,HT⟩
 case round =>
   obtain ⟨k,acc,hk2,hke,rfl,hown,hacc,hbr,H⟩:=hrel
   have hBr : w.heap.size ≤ wr.heap.size:=hbr.size
   clear HT
   by_cases hlt : k < s.size
   · have h3 : k + 1 < s.size:=by omega
     have D1:=Lh (fun W => rdigit s[k] W)
     have D2:=Lh (fun W => rdigit s[k + 1] W)
     have g1 : 0 ≤ hexv s[k]:=HD.out _ (List.mem_of_mem_drop (i:=k) (by rw [drop_get s k hlt];simp))
     have g2 : 0 ≤ hexv s[k + 1]:=HD.out _ (List.mem_of_mem_drop (i:=k + 1) (by rw [drop_get s (k + 1) h3];simp))
     have H1:=H.out
     rw [drop_get s k hlt,drop_get s (k + 1) h3,pairs] at H1
     obtain ⟨u1,hu1⟩ : ∃ u,hexv s[k] = u:=⟨_,rfl⟩
     obtain ⟨u2,hu2⟩ : ∃ u,hexv s[k + 1] = u:=⟨_,rfl⟩
     have hv2 : u1 < 16:=by rw [← hu1];exact digit_lt _
     have hv3 : u2 < 16:=by rw [← hu2];exact digit_lt _
     rw [hu1] at D1 g1 H1
     rw [hu2] at D2 g2 H1
     have hcn : (UInt8.ofNat ((16 : Int) * u1 + u2).toNat).toNat = ((16 : Int) * u1 + u2).toNat:=by simp;omega
     obtain ⟨c,hcc⟩ : ∃ c,UInt8.ofNat ((16 : Int) * u1 + u2).toNat = c:=⟨_,rfl⟩
     rw [hcc] at H1 hcn
     have hci0 : (16 : Int) * u1 + u2 = (c.toNat : Int):=by omega
     have HCI:=Lh hci0
     have HX:=Lh (show (acc ++ [c]) ++ pairs (s.data.toList.drop (k + 2)) = T by rw [← H1];simp)
     have hn1 : ¬ u1 < 0:=by omega
     have hn2 : ¬ u2 < 0:=by omega
     clear hu1 hu2 H H1 hcc hcn hci0
     go_wp2
     have r1 : (0 : Int) ≤ (k : Int) + 1:=by omega
     have r3 : ((k : Int) + 1).toNat = k + 1:=by omega
     have r6 : (k : Int) + 1 < s.size:=by omega
     have r8:=IntWalk.i64_in ((k : Int) + 1) ⟨by omega,by omega⟩
     go_quiet ((go_at_call 156;first | (with_reducible exact Calls.quiet_of_same (D1.out _)) | (with_reducible exact Calls.quiet_of_same (D2.out _))))
     clear r8
     have hci:=HCI.out
     go_wp2_with (at_builtin;go_must (refine append1 rfl _ _ rfl w.heap.size _ acc _ (ownB_below hown (belowDrewN (Below.refl _ _) _)) rfl rfl (by omega) (belowDrewN hbr nq).size (by omega) (by have:=UInt8.toNat_lt c;omega) ?_);intro v3 w3 hown3 hb3 hz3;replace hb3:=(belowDrewN hbr nq).trans hb3)
     go_roundw
     case rel => exact ⟨k + 2,acc ++ [c],by omega,by omega,by go_num,by simpa using hown3,by simp;omega,hb3,HX⟩
     case measure => simp [intOf];omega
   · have hk : k = s.size:=by omega
     have HX:=Lh (show acc = T by have:=H.out;rw [hk,List.drop_eq_nil_of_le (by simp)] at this;simpa [pairs] using this)
     obtain ⟨p,cv,rfl⟩:=ownB_slice hown
     have hcv:=convB hown
     clear H hk
     go_wp2
     refine bodyPost_ret (v:=.tuple #[.string ⟨acc.toArray⟩,.int .i64 0]) (by simp [results,Tryz.results158,go_sem]) rfl ⟨by rw [HX.out],bel⟩
def HexOut (a : Nat) : Res (L × Nat) → Value
 | .bad e => .tuple #[.string ⟨#[]⟩,.int .i64 0,.int .i64 e]
 | .good x => if 32767 < x.1.length then .tuple #[.string ⟨#[]⟩,.int .i64 0,.int .i64 5] else .tuple #[.string ⟨x.1.toArray⟩,.int .i64 (a + x.2 : Nat),.int .i64 0]
theorem runhexA (l : L) (r : ByteArray) (hr : (⟨(pairs l).toArray⟩ : ByteArray) = r) (hl : l.length ≤ 140737488355327) (he : l.length % 2 = 0) (hd : ∀ c ∈ l, 0 ≤ hexv c) (w : World) :
   Calls Tryz.prog 158 #[.string ⟨l.toArray⟩] w fun e w' => e = .returned (.tuple #[.string r,.int .i64 0]) ∧ Below w.heap.size w w':=by
 have h:=runhex ⟨l.toArray⟩ (by simpa [ByteArray.size] using hl) (by simpa [ByteArray.size] using he) (by simpa using hd) w
 rw [show (⟨l.toArray⟩ : ByteArray).data.toList = l by simp,hr] at h
 exact h
theorem rhex (s : ByteArray) (a : Nat) (ha : a ≤ s.size) (hs : s.size ≤ 140737488355327) (w : World) :
   Calls Tryz.prog 105 #[.string s,.int .i64 a] w fun e w' => e = .returned (HexOut a (pairR (hexG [] 0 (s.data.toList.drop a)))) ∧ Below w.heap.size w w':=by
 obtain ⟨G,hG⟩ : ∃ G,hexG [] 0 (s.data.toList.drop a) = G:=⟨_,rfl⟩
 rw [hG]
 have HG:=Lh (show hexG [] (a - a) (s.data.toList.drop a) = G by rw [Nat.sub_self];exact hG)
 clear hG
 go_enter Tryz.func105,Tryz.ntmps105
 go_wp2
 go_loopw [1,7] (fun i v wr => ∃ (k : Nat) (acc : L),a ≤ k ∧ k ≤ s.size ∧ i = .int .i64 k ∧ ownB wr w.heap.size v acc ∧ acc.length ≤ k ∧ Below w.heap.size w wr ∧ Hid (∀ c ∈ acc,0 ≤ hexv c) ∧ Hid (hexG acc (k - a) (s.data.toList.drop k) = G)) (fun i _ _ => s.size - (intOf i).toNat)
 case atStart => exact ⟨a,[],by omega,ha,rfl,ownB_nil _ _,by simp,Below.refl _ _,Lh (by simp),HG⟩
 case round =>
   obtain ⟨k,acc,hka,hk2,rfl,hown,hacc,hbr,HA,H⟩:=hrel
   have hBr : w.heap.size ≤ wr.heap.size:=hbr.size
   clear HG
   by_cases hlt : k < s.size
   · have H1:=H.out
     rw [drop_get s k hlt,hexG] at H1
     have hk1 : k - a + 1 = k + 1 - a:=by omega
     rw [hk1] at H1
     clear hk1 H
     by_cases h62 : s[k] = 62
     · have t62 : ((s[k].toNat : Int) == 62) = true:=eq_yes (n:=62) (by decide) h62
       have HG2:=Lh (show G = .good (acc,k + 1 - a) by rw [← H1,h62];rfl)
       obtain ⟨r,hr0⟩ : ∃ r : ByteArray,(⟨(pairs acc).toArray⟩ : ByteArray) = r:=⟨_,rfl⟩
       have hrl:=Lh (show r.size = (pairs acc).length by rw [← hr0];simp [ByteArray.size])
       have hr:=Lh hr0
       clear H1 h62 hr0
       by_cases hev : acc.length % 2 = 0
       · have e1 : ((acc.length : Int) % 2 != 0) = false:=by simp;omega
         have U:=Lh (fun W => runhexA acc r hr.out (by omega) hev HA.out W)
         obtain ⟨p,cv,rfl⟩:=ownB_slice hown
         have hcv:=convB hown
         by_cases h32 : 32767 < r.size
         · go_wp2_with (go_at_call 158;refine (U.out _).mono ?_;rintro e w3 ⟨rfl,hb3⟩)
           refine bodyPost_ret (v:=.tuple #[.string ⟨#[]⟩,.int .i64 0,.int .i64 5]) (by simp [results,Tryz.results105,go_sem]) rfl ⟨?_,bel⟩
           rw [HG2.out];simp only [HexOut,pairR];rw [if_pos (by rw [← hrl.out];exact h32)]
         · go_wp2_with (go_at_call 158;refine (U.out _).mono ?_;rintro e w3 ⟨rfl,hb3⟩)
           refine bodyPost_ret (v:=.tuple #[.string r,.int .i64 (k + 1),.int .i64 0]) (by simp [results,Tryz.results105,go_sem]) rfl ⟨?_,bel⟩
           rw [HG2.out];simp only [HexOut,pairR];rw [if_neg (by rw [← hrl.out];exact h32),hr.out,show a + (k + 1 - a) = k + 1 by omega];rfl
       · have e1 : ((acc.length : Int) % 2 != 0) = true:=by simp;omega
         obtain ⟨bb,hbb⟩ : ∃ bb,acc ++ [48] = bb:=⟨_,rfl⟩
         have HBB:=Lh hbb
         have hu:=fun W => runhexA (acc ++ [48]) r (by rw [pairs_odd acc (by omega)];exact hr.out) (by simp;omega) (by simp;omega) (by intro c hc;rw [List.mem_append] at hc;rcases hc with h | h;exact HA.out c h;simp only [List.mem_singleton] at h;subst h;decide) W
         rw [hbb] at hu
         have U:=Lh hu
         clear hbb hu
         obtain ⟨p,cv,rfl⟩:=ownB_slice hown
         by_cases h32 : 32767 < r.size
         · go_wp2_with (first | (go_at_call 158;refine (U.out _).mono ?_;rintro e w4 ⟨rfl,hb4⟩) | (at_builtin;go_must (refine append1 rfl _ _ rfl w.heap.size _ acc _ hown rfl rfl (by omega) hBr (by omega) (by omega) ?_);intro v3 w3 hown3 hb3 hz3;replace hb3:=hbr.trans hb3;replace hown3 : ownB w3 w.heap.size v3 bb:=HBB.out ▸ hown3;obtain ⟨p3,c3,rfl⟩:=ownB_slice hown3;have hcv:=convB hown3))
           refine bodyPost_ret (v:=.tuple #[.string ⟨#[]⟩,.int .i64 0,.int .i64 5]) (by simp [results,Tryz.results105,go_sem]) rfl ⟨?_,bel⟩
           rw [HG2.out];simp only [HexOut,pairR];rw [if_pos (by rw [← hrl.out];exact h32)]
         · go_wp2_with (first | (go_at_call 158;refine (U.out _).mono ?_;rintro e w4 ⟨rfl,hb4⟩) | (at_builtin;go_must (refine append1 rfl _ _ rfl w.heap.size _ acc _ hown rfl rfl (by omega) hBr (by omega) (by omega) ?_);intro v3 w3 hown3 hb3 hz3;replace hb3:=hbr.trans hb3;replace hown3 : ownB w3 w.heap.size v3 bb:=HBB.out ▸ hown3;obtain ⟨p3,c3,rfl⟩:=ownB_slice hown3;have hcv:=convB hown3))
           refine bodyPost_ret (v:=.tuple #[.string r,.int .i64 (k + 1),.int .i64 0]) (by simp [results,Tryz.results105,go_sem]) rfl ⟨?_,bel⟩
           rw [HG2.out];simp only [HexOut,pairR];rw [if_neg (by rw [← hrl.out];exact h32),hr.out,show a + (k + 1 - a) = k + 1 by omega];rfl
     · have t62 : ((s[k].toNat : Int) == 62) = false:=eq_no (n:=62) (by decide) h62
       rw [if_neg (by simpa using h62)] at H1
       have D1:=Lh (fun W => rdigit s[k] W)
       have W1:=Lh (fun W => rwhite s[k] W)
       by_cases hc : 0 ≤ hexv s[k]
       · rw [if_pos hc] at H1
         have HX:=Lh H1
         have HC:=Lh (show ∀ c ∈ acc ++ [s[k]],0 ≤ hexv c by
           intro c hcm
           rw [List.mem_append] at hcm
           rcases hcm with h | h
           · exact HA.out c h
           · simp only [List.mem_singleton] at h;subst h;exact hc)
         obtain ⟨u1,hu1⟩ : ∃ u,hexv s[k] = u:=⟨_,rfl⟩
         rw [hu1] at D1 hc
         clear H1 h62 hu1
         go_wp2_with (first | (go_at_call 156;refine (D1.out _).mono ?_;rintro e w2 ⟨rfl,rfl⟩) | (at_builtin;go_must (refine append1 rfl _ _ rfl w.heap.size _ acc _ hown rfl rfl (by omega) hBr (by omega) (by have:=UInt8.toNat_lt s[k];omega) ?_);intro v3 w3 hown3 hb3 hz3;replace hb3:=hbr.trans hb3))
         go_roundw
         case rel => exact ⟨k + 1,acc ++ [s[k]],by omega,by omega,by go_num,by simpa using hown3,by simp;omega,hb3,HC,HX⟩
         case measure => simp [intOf];omega
       · have hn : ¬ 0 ≤ hexv s[k]:=hc
         rw [if_neg hn] at H1
         obtain ⟨u1,hu1⟩ : ∃ u,hexv s[k] = u:=⟨_,rfl⟩
         rw [hu1] at D1 hn hc
         clear hu1
         cases hw : white s[k]
         · rw [hw] at W1 H1
           have HG2:=Lh (show G = .bad 3 from H1.symm)
           clear H1 hw h62
           go_wp2_with (first | (go_at_call 156;refine (D1.out _).mono ?_;rintro e w2 ⟨rfl,rfl⟩) | (go_at_call 101;refine (W1.out _).mono ?_;rintro e w2 ⟨rfl,rfl⟩))
           refine bodyPost_ret (v:=.tuple #[.string ⟨#[]⟩,.int .i64 0,.int .i64 3]) (by simp [results,Tryz.results105,go_sem]) rfl ⟨by rw [HG2.out];rfl,bel⟩
         · rw [hw] at W1 H1
           have HX:=Lh H1
           clear H1 hw h62
           go_wp2_with (first | (go_at_call 156;refine (D1.out _).mono ?_;rintro e w2 ⟨rfl,rfl⟩) | (go_at_call 101;refine (W1.out _).mono ?_;rintro e w2 ⟨rfl,rfl⟩))
           go_roundw
           case rel => exact ⟨k + 1,acc,by omega,by omega,by go_num,hown,by omega,bel,HA,HX⟩
           case measure => simp [intOf];omega
   · have HG2:=Lh (show G = .bad 4 by have:=H.out;rw [List.drop_eq_nil_of_le (by simp;omega)] at this;exact this.symm)
     clear H
     go_wp2
     refine bodyPost_ret (v:=.tuple #[.string ⟨#[]⟩,.int .i64 0,.int .i64 4]) (by simp [results,Tryz.results105,go_sem]) rfl ⟨by rw [HG2.out];rfl,bel⟩
theorem lineN_pos (c : UInt8) (l : L) : 1 ≤ lineN (c :: l):=by
 rw [lineN_cons];(repeat' split) <;> omega
abbrev letters : L:=[110,114,116,98,102]
def escO (c : UInt8) (x : Nat × Nat) : L × Nat:=if x.2 = 0 then ([c],1) else ([UInt8.ofNat x.1],x.2)
theorem esc_cases (c : UInt8) (l : L) :
   (c = 110 ∧ Lib.indexByte letters c = 0 ∧ esc (c :: l) = ([10],1)) ∨ (c = 114 ∧ Lib.indexByte letters c = 1 ∧ esc (c :: l) = ([13],1)) ∨ (c = 116 ∧ Lib.indexByte letters c = 2 ∧ esc (c :: l) = ([9],1)) ∨
   (c = 98 ∧ Lib.indexByte letters c = 3 ∧ esc (c :: l) = ([8],1)) ∨ (c = 102 ∧ Lib.indexByte letters c = 4 ∧ esc (c :: l) = ([12],1)) ∨
   (Lib.indexByte letters c = -1 ∧ eol c = true ∧ esc (c :: l) = ([],lineN (c :: l))) ∨
   (Lib.indexByte letters c = -1 ∧ eol c = false ∧ esc (c :: l) = escO c (octN 3 0 0 (c :: l))):=by
 have hix : ∀ c : UInt8,(c == 110 || c == 114 || c == 116 || c == 98 || c == 102) = true ∨ Lib.indexByte letters c = -1:=by
   intro c
   have:=u8_all (fun c => (c == 110 || c == 114 || c == 116 || c == 98 || c == 102) || (Lib.indexByte letters c == -1)) (by decide +kernel) c
   simpa using this
 by_cases h1 : c = 110
 · subst h1;left;exact ⟨rfl,by decide +kernel,by simp [esc]⟩
 by_cases h2 : c = 114
 · subst h2;right;left;exact ⟨rfl,by decide +kernel,by simp [esc]⟩
 by_cases h3 : c = 116
 · subst h3;right;right;left;exact ⟨rfl,by decide +kernel,by simp [esc]⟩
 by_cases h4 : c = 98
 · subst h4;right;right;right;left;exact ⟨rfl,by decide +kernel,by simp [esc]⟩
 by_cases h5 : c = 102
 · subst h5;right;right;right;right;left;exact ⟨rfl,by decide +kernel,by simp [esc]⟩
 have h6 : Lib.indexByte letters c = -1:=by
   rcases hix c with h | h
   · simp [h1,h2,h3,h4,h5] at h
   · exact h
 right;right;right;right;right
 cases he : eol c
 · right;exact ⟨h6,rfl,by unfold escO;simp [esc,h1,h2,h3,h4,h5,he]⟩
 · left;exact ⟨h6,rfl,by simp [esc,h1,h2,h3,h4,h5,he]⟩
theorem octN_stop {k v n : Nat} {l : L} (h : k = 0 ∨ l = [] ∨ ∃ c l',l = c :: l' ∧ oct c = false) : octN k v n l = (v,n):=by
 rcases h with rfl | rfl | ⟨c,l',rfl,hc⟩
 · simp [octN]
 · cases k <;> simp [octN]
 · cases k <;> simp [octN,hc]
theorem octN_go {k v n : Nat} {c : UInt8} {l : L} (h : oct c = true) : octN (k + 1) v n (c :: l) = octN k (8 * v + (c.toNat - 48)) (n + 1) l:=by simp [octN,h]
theorem oct_iff (c : UInt8) : oct c = true ↔ (48 ≤ (c.toNat : Int) ∧ (c.toNat : Int) ≤ 55):=by
 unfold oct;simp [UInt8.le_iff_toNat_le];omega
theorem ext1 (s : ByteArray) (p : Nat) (hp : p < s.size) : s.extract p (p + 1) = ⟨#[s[p]]⟩:=by
 apply ByteArray.ext_iff.2
 apply Array.toList_inj.1
 rw [Lib.extract_data,drop_get s p hp]
 simp
theorem u8_mod (v : Nat) : UInt8.ofNat (v % 256) = UInt8.ofNat v:=by
 apply UInt8.toNat_inj.1;simp
theorem rescape (s : ByteArray) (a : Nat) (hp : a + 1 < s.size) (hs : s.size ≤ 140737488355327) (w : World) :
   Calls Tryz.prog 157 #[.string s,.int .i64 a] w fun e w' => e = .returned (.tuple #[.string ⟨(esc (s.data.toList.drop (a + 1))).1.toArray⟩,.int .i64 (a + 1 + (esc (s.data.toList.drop (a + 1))).2 : Nat)]) ∧ Below w.heap.size w w':=by
 obtain ⟨E,hE⟩ : ∃ E,esc (s.data.toList.drop (a + 1)) = E:=⟨_,rfl⟩
 rw [hE]
 have HE:=Lh hE
 clear hE
 go_enter Tryz.func157,Tryz.ntmps157
 go_wp2
 go_loop [9] (fun i => ∃ k : Nat,k ≤ 5 ∧ i = .int .i64 k ∧ Hid (∀ j,j < k → some s[a + 1] ≠ letters[j]?)) (fun i => 5 - (intOf i).toNat)
 case atStart => exact ⟨0,by omega,by simp,Lh (by simp)⟩
 case round =>
   obtain ⟨k,hk,rfl,HN⟩:=hrel
   have hk6 : k = 0 ∨ k = 1 ∨ k = 2 ∨ k = 3 ∨ k = 4 ∨ k = 5:=by omega
   rcases hk6 with rfl | rfl | rfl | rfl | rfl | rfl
   · skip
     by_cases h : s[a + 1] = 110
     · have t : ((s[a + 1].toNat : Int) == (((⟨#[110,114,116,98,102]⟩ : ByteArray)[0]).toNat : Int)) = true:=eq_yes (n:=110) (by decide) h
       have HX:=Lh (show E = ([10],1) by rw [← HE.out,drop_get s (a + 1) hp,h];rfl)
       clear h
       go_wp2
       go_ret2
       refine ⟨?_,bel⟩
       rw [HX.out];simp;exact ⟨rfl,by omega⟩
     · have t : ((s[a + 1].toNat : Int) == (((⟨#[110,114,116,98,102]⟩ : ByteArray)[0]).toNat : Int)) = false:=eq_no (n:=110) (by decide) h
       have HM:=Lh (show ∀ j,j < 0 + 1 → some s[a + 1] ≠ letters[j]? by
         intro j hj
         by_cases hjk : j = 0
         · subst hjk;simpa using h
         · exact HN.out j (by omega))
       clear h
       go_wp2
       go_round
       case rel => exact ⟨0 + 1,by omega,by simp,HM⟩
       case measure => simp [intOf]
   · skip
     by_cases h : s[a + 1] = 114
     · have t : ((s[a + 1].toNat : Int) == (((⟨#[110,114,116,98,102]⟩ : ByteArray)[1]).toNat : Int)) = true:=eq_yes (n:=114) (by decide) h
       have HX:=Lh (show E = ([13],1) by rw [← HE.out,drop_get s (a + 1) hp,h];rfl)
       clear h
       go_wp2
       go_ret2
       refine ⟨?_,bel⟩
       rw [HX.out];simp;exact ⟨rfl,by omega⟩
     · have t : ((s[a + 1].toNat : Int) == (((⟨#[110,114,116,98,102]⟩ : ByteArray)[1]).toNat : Int)) = false:=eq_no (n:=114) (by decide) h
       have HM:=Lh (show ∀ j,j < 1 + 1 → some s[a + 1] ≠ letters[j]? by
         intro j hj
         by_cases hjk : j = 1
         · subst hjk;simpa using h
         · exact HN.out j (by omega))
       clear h
       go_wp2
       go_round
       case rel => exact ⟨1 + 1,by omega,by simp,HM⟩
       case measure => simp [intOf]
   · skip
     by_cases h : s[a + 1] = 116
     · have t : ((s[a + 1].toNat : Int) == (((⟨#[110,114,116,98,102]⟩ : ByteArray)[2]).toNat : Int)) = true:=eq_yes (n:=116) (by decide) h
       have HX:=Lh (show E = ([9],1) by rw [← HE.out,drop_get s (a + 1) hp,h];rfl)
       clear h
       go_wp2
       go_ret2
       refine ⟨?_,bel⟩
       rw [HX.out];simp;exact ⟨rfl,by omega⟩
     · have t : ((s[a + 1].toNat : Int) == (((⟨#[110,114,116,98,102]⟩ : ByteArray)[2]).toNat : Int)) = false:=eq_no (n:=116) (by decide) h
       have HM:=Lh (show ∀ j,j < 2 + 1 → some s[a + 1] ≠ letters[j]? by
         intro j hj
         by_cases hjk : j = 2
         · subst hjk;simpa using h
         · exact HN.out j (by omega))
       clear h
       go_wp2
       go_round
       case rel => exact ⟨2 + 1,by omega,by simp,HM⟩
       case measure => simp [intOf]
   · skip
     by_cases h : s[a + 1] = 98
     · have t : ((s[a + 1].toNat : Int) == (((⟨#[110,114,116,98,102]⟩ : ByteArray)[3]).toNat : Int)) = true:=eq_yes (n:=98) (by decide) h
       have HX:=Lh (show E = ([8],1) by rw [← HE.out,drop_get s (a + 1) hp,h];rfl)
       clear h
       go_wp2
       go_ret2
       refine ⟨?_,bel⟩
       rw [HX.out];simp;exact ⟨rfl,by omega⟩
     · have t : ((s[a + 1].toNat : Int) == (((⟨#[110,114,116,98,102]⟩ : ByteArray)[3]).toNat : Int)) = false:=eq_no (n:=98) (by decide) h
       have HM:=Lh (show ∀ j,j < 3 + 1 → some s[a + 1] ≠ letters[j]? by
         intro j hj
         by_cases hjk : j = 3
         · subst hjk;simpa using h
         · exact HN.out j (by omega))
       clear h
       go_wp2
       go_round
       case rel => exact ⟨3 + 1,by omega,by simp,HM⟩
       case measure => simp [intOf]
   · skip
     by_cases h : s[a + 1] = 102
     · have t : ((s[a + 1].toNat : Int) == (((⟨#[110,114,116,98,102]⟩ : ByteArray)[4]).toNat : Int)) = true:=eq_yes (n:=102) (by decide) h
       have HX:=Lh (show E = ([12],1) by rw [← HE.out,drop_get s (a + 1) hp,h];rfl)
       clear h
       go_wp2
       go_ret2
       refine ⟨?_,bel⟩
       rw [HX.out];simp;exact ⟨rfl,by omega⟩
     · have t : ((s[a + 1].toNat : Int) == (((⟨#[110,114,116,98,102]⟩ : ByteArray)[4]).toNat : Int)) = false:=eq_no (n:=102) (by decide) h
       have HM:=Lh (show ∀ j,j < 4 + 1 → some s[a + 1] ≠ letters[j]? by
         intro j hj
         by_cases hjk : j = 4
         · subst hjk;simpa using h
         · exact HN.out j (by omega))
       clear h
       go_wp2
       go_round
       case rel => exact ⟨4 + 1,by omega,by simp,HM⟩
       case measure => simp [intOf]
   · have hN:=HN.out
     have n0 : ¬ s[a + 1] = 110:=fun h => hN 0 (by omega) (by rw [h];rfl)
     have n1 : ¬ s[a + 1] = 114:=fun h => hN 1 (by omega) (by rw [h];rfl)
     have n2 : ¬ s[a + 1] = 116:=fun h => hN 2 (by omega) (by rw [h];rfl)
     have n3 : ¬ s[a + 1] = 98:=fun h => hN 3 (by omega) (by rw [h];rfl)
     have n4 : ¬ s[a + 1] = 102:=fun h => hN 4 (by omega) (by rw [h];rfl)
     have hc:=esc_cases s[a + 1] (s.data.toList.drop (a + 1 + 1))
     rw [← drop_get s (a + 1) hp,HE.out] at hc
     have hc2 : (eol s[a + 1] = true ∧ E = ([],lineN (s.data.toList.drop (a + 1)))) ∨ (eol s[a + 1] = false ∧ E = escO s[a + 1] (octN 3 0 0 (s.data.toList.drop (a + 1)))):=by
       rcases hc with ⟨h,_⟩ | ⟨h,_⟩ | ⟨h,_⟩ | ⟨h,_⟩ | ⟨h,_⟩ | ⟨_,h⟩ | ⟨_,h⟩
       · exact absurd h n0
       · exact absurd h n1
       · exact absurd h n2
       · exact absurd h n3
       · exact absurd h n4
       · exact .inl h
       · exact .inr h
     clear hc hN n0 n1 n2 n3 n4 HN HE
     by_cases h13 : s[a + 1] = 13
     · have t13 : ((s[a + 1].toNat : Int) == 13) = true:=eq_yes (n:=13) (by decide) h13
       have hE:=(hc2.resolve_right (fun h => by rw [h13] at h;exact absurd h.1 (by decide))).2
       rw [drop_get s (a + 1) hp,lineN_cons,h13,if_neg (by decide),if_pos rfl] at hE
       clear hc2 h13
       by_cases h2 : a + 2 < s.size
       · have q2 : (a : Int) + 2 < s.size:=by omega
         rw [show a + 1 + 1 = a + 2 by omega,drop_get s (a + 2) h2] at hE
         by_cases h10 : s[a + 2] = 10
         · have t10 : ((s[a + 2].toNat : Int) == 10) = true:=eq_yes (n:=10) (by decide) h10
           have hX : E = ([],2):=by rw [hE,h10];rfl
           clear h10 hE
           have HX:=Lh hX
           clear hX
           go_wp2
           go_ret2
           refine ⟨?_,bel⟩
           rw [HX.out]
           simp;omega
         · have t10 : ((s[a + 2].toNat : Int) == 10) = false:=eq_no (n:=10) (by decide) h10
           have hX : E = ([],1):=by rw [hE];simp [h10]
           clear h10 hE
           have HX:=Lh hX
           clear hX
           go_wp2
           go_ret2
           refine ⟨?_,bel⟩
           rw [HX.out]
           simp;omega
       · have q2 : ¬ (a : Int) + 2 < s.size:=by omega
         have hX : E = ([],1):=by rw [hE,List.drop_eq_nil_of_le (by simp;omega)];rfl
         clear hE
         have HX:=Lh hX
         clear hX
         go_wp2
         go_ret2
         refine ⟨?_,bel⟩
         rw [HX.out]
         simp;omega
     · have t13 : ((s[a + 1].toNat : Int) == 13) = false:=eq_no (n:=13) (by decide) h13
       by_cases h10 : s[a + 1] = 10
       · have t10 : ((s[a + 1].toNat : Int) == 10) = true:=eq_yes (n:=10) (by decide) h10
         have hE:=(hc2.resolve_right (fun h => by rw [h10] at h;exact absurd h.1 (by decide))).2
         rw [drop_get s (a + 1) hp,lineN_cons,h10,if_pos rfl] at hE
         have hX:=hE
         clear hc2 h13 h10 hE
         have HX:=Lh hX
         clear hX
         go_wp2
         go_ret2
         refine ⟨?_,bel⟩
         rw [HX.out]
         simp;omega
       · have t10 : ((s[a + 1].toNat : Int) == 10) = false:=eq_no (n:=10) (by decide) h10
         have hE:=(hc2.resolve_left (fun h => by have:=h.1;simp [eol,h13,h10] at this)).2
         clear hc2 h13 h10
         obtain ⟨X,hX⟩ : ∃ X,octN 3 0 0 (s.data.toList.drop (a + 1)) = X:=⟨_,rfl⟩
         rw [hX] at hE
         subst hE
         have HX0:=Lh hX;clear hX
         go_wp2
         go_loop [10,11] (fun n t => ∃ (v j : Nat),j ≤ 3 ∧ a + 1 + j ≤ s.size ∧ v < 8 ^ j ∧ n = .int .i64 v ∧ t = .int .i64 (a + 1 + j) ∧ Hid (octN (3 - j) v j (s.data.toList.drop (a + 1 + j)) = X)) (fun _ t => s.size - (intOf t).toNat)
         case atStart => exact ⟨0,0,by omega,by omega,by decide,rfl,by go_num,HX0⟩
         case round =>
           obtain ⟨v,j,hj,hpj,hv,rfl,rfl,H⟩:=hrel
           have hv2 : v < 512:=Nat.lt_of_lt_of_le hv (Nat.le_trans (Nat.pow_le_pow_right (by decide) hj) (by decide))
           have HV:=Lh hv
           clear HX0 hv
           by_cases h1 : a + 1 + j < s.size
           · by_cases h2 : j < 3
             · by_cases h3 : 48 ≤ (s[a + 1 + j].toNat : Int)
               · by_cases h4 : (s[a + 1 + j].toNat : Int) ≤ 55
                 · have HX := Lib.hid (show octN (3 - (j + 1)) (8 * v + (s[a + 1 + j].toNat - 48)) (j + 1) (s.data.toList.drop (a + 1 + j + 1)) = X by
                     have:=H.out
                     rw [drop_get s _ h1,show 3 - j = (3 - (j + 1)) + 1 by omega,octN_go ((oct_iff _).2 ⟨h3,h4⟩)] at this;exact this)
                   clear H
                   go_wp2
                   go_round
                   case rel => exact ⟨8 * v + (s[a + 1 + j].toNat - 48),j + 1,by omega,by omega,by have:=HV.out;rw [Nat.pow_succ];omega,by congr 1;omega,by go_num,HX⟩
                   case measure => simp [intOf];omega
                 · have hX : X = (v,j):=H.out.symm.trans (octN_stop (.inr (.inr ⟨_,_,drop_get s _ h1,by rw [Bool.eq_false_iff];intro h;exact h4 ((oct_iff _).1 h).2⟩)))
                   clear H HV
                   by_cases hj0 : j = 0
                   · subst hj0
                     have HX:=Lh hX
                     clear hX
                     go_wp2
                     go_ret2
                     refine ⟨?_,bel⟩
                     rw [HX.out];simp [escO];exact ⟨ext1 s (a + 1) hp,by omega⟩
                   · skip
                     have hgt : (a : Int) + 1 < a + 1 + j:=by omega
                     have HX:=Lh hX
                     clear hX
                     go_wp2_with fail
                     rw [conv_one _ _ (by simp [isByte,go_sem])]
                     go_wp2
                     go_ret2
                     refine ⟨?_,bel⟩
                     rw [HX.out];simp [escO,hj0,cellByte,go_sem];exact u8_mod v
               · have hX : X = (v,j):=H.out.symm.trans (octN_stop (.inr (.inr ⟨_,_,drop_get s _ h1,by rw [Bool.eq_false_iff];intro h;exact h3 ((oct_iff _).1 h).1⟩)))
                 clear H HV
                 by_cases hj0 : j = 0
                 · subst hj0
                   have HX:=Lh hX
                   clear hX
                   go_wp2
                   go_ret2
                   refine ⟨?_,bel⟩
                   rw [HX.out];simp [escO];exact ⟨ext1 s (a + 1) hp,by omega⟩
                 · skip
                   have hgt : (a : Int) + 1 < a + 1 + j:=by omega
                   have HX:=Lh hX
                   clear hX
                   go_wp2_with fail
                   rw [conv_one _ _ (by simp [isByte,go_sem])]
                   go_wp2
                   go_ret2
                   refine ⟨?_,bel⟩
                   rw [HX.out];simp [escO,hj0,cellByte,go_sem];exact u8_mod v
             · have hX : X = (v,j):=H.out.symm.trans (octN_stop (.inl (by omega)))
               clear H HV
               have hj0 : ¬ j = 0:=by omega
               have hgt : (a : Int) + 1 < a + 1 + j:=by omega
               have HX:=Lh hX
               clear hX
               go_wp2_with fail
               rw [conv_one _ _ (by simp [isByte,go_sem])]
               go_wp2
               go_ret2
               refine ⟨?_,bel⟩
               rw [HX.out];simp [escO,hj0,cellByte,go_sem];exact u8_mod v
           · have hX : X = (v,j):=H.out.symm.trans (octN_stop (.inr (.inl (by rw [List.drop_eq_nil_of_le (by simp;omega)]))))
             clear H HV
             have hj0 : ¬ j = 0:=by omega
             have hgt : (a : Int) + 1 < a + 1 + j:=by omega
             have HX:=Lh hX
             clear hX
             go_wp2_with fail
             rw [conv_one _ _ (by simp [isByte,go_sem])]
             go_wp2
             go_ret2
             refine ⟨?_,bel⟩
             rw [HX.out];simp [escO,hj0,cellByte,go_sem];exact u8_mod v
theorem hexv_lt (c : UInt8) : hexv c < (16 : Int):=digit_lt c.toNat
theorem octN_le (k v n : Nat) (l : L) : n ≤ (octN k v n l).2 ∧ (octN k v n l).2 ≤ n + l.length:=by
 induction k generalizing v n l with
 | zero => simp [octN]
 | succ k ih =>
   cases l with
   | nil => simp [octN]
   | cons c l =>
     simp only [octN]
     split
     · have:=ih (8 * v + (c.toNat - 48)) (n + 1) l;simp;omega
     · simp
theorem esc_le (l : L) (h : l ≠ []) : 1 ≤ (esc l).2 ∧ (esc l).2 ≤ l.length ∧ (esc l).1.length ≤ 1:=by
 cases l with
 | nil => exact absurd rfl h
 | cons c l =>
   have h1:=lineN_pos c l
   have h2:=lineN_le (c :: l)
   have h3:=octN_le 3 0 0 (c :: l)
   rcases esc_cases c l with ⟨_,_,e⟩ | ⟨_,_,e⟩ | ⟨_,_,e⟩ | ⟨_,_,e⟩ | ⟨_,_,e⟩ | ⟨_,_,e⟩ | ⟨_,_,e⟩ <;> rw [e]
   all_goals first | (simp;done) | (simp only [List.length_nil];omega) | skip
   unfold escO
   split
   · simp
   · simp only [List.length_cons,List.length_nil] at *;omega
theorem textS_skip (acc : L) (n op : Nat) : ∀ (k : Nat) (l : L),k ≤ l.length → textS acc n op k l = textS acc (n + k) op 0 (l.drop k):=by
 intro k
 induction k generalizing n with
 | zero => intro l _;simp
 | succ k ih =>
   intro l hl
   cases l with
   | nil => simp at hl
   | cons c l => rw [textS,ih (n + 1) l (by simpa using hl),List.drop_succ_cons];congr 1;omega
theorem textS_end {acc : L} {n op : Nat} : textS acc n op 0 [] = .bad 4:=by simp [textS]
theorem textS_eol {acc : L} {n op : Nat} {s : ByteArray} {k : Nat} (h : k < s.size) (he : eol s[k] = true) :
   textS acc n op 0 (s.data.toList.drop k) = textS (acc ++ [10]) (n + lineN (s.data.toList.drop k)) op 0 (s.data.toList.drop (k + lineN (s.data.toList.drop k))):=by
 have h1:=lineN_le (s.data.toList.drop k)
 rw [drop_get s k h] at *
 have h2:=lineN_pos s[k] (s.data.toList.drop (k + 1))
 obtain ⟨x,hx⟩ : ∃ x,lineN (s[k] :: s.data.toList.drop (k + 1)) = x:=⟨_,rfl⟩
 rw [hx] at h1 h2
 rw [textS,if_pos he,textS_skip _ _ _ _ _ (by rw [hx];simp at h1 ⊢;omega),List.drop_drop,hx,show k + 1 + (x - 1) = k + x by omega,show n + 1 + (x - 1) = n + x by omega]
theorem textS_esc0 {acc : L} {n op : Nat} {s : ByteArray} {k : Nat} (h : k + 1 = s.size) (hc : s[k] = 92) : textS acc n op 0 (s.data.toList.drop k) = .bad 4:=by
 rw [drop_get s k (by omega),hc,List.drop_eq_nil_of_le (by simp;omega)];simp [textS,eol]
theorem textS_esc {acc : L} {n op : Nat} {s : ByteArray} {k : Nat} (h : k + 1 < s.size) (hc : s[k] = 92) :
   textS acc n op 0 (s.data.toList.drop k) = textS (acc ++ (esc (s.data.toList.drop (k + 1))).1) (n + 1 + (esc (s.data.toList.drop (k + 1))).2) op 0 (s.data.toList.drop (k + 1 + (esc (s.data.toList.drop (k + 1))).2)):=by
 have hne : s.data.toList.drop (k + 1) ≠ []:=by rw [drop_get s _ h];simp
 rw [drop_get s k (by omega),hc]
 have he : (eol 92) = false:=by decide
 rw [textS]
 simp only [he,hne]
 simp only [Bool.false_eq_true,if_false,beq_self_eq_true,if_true]
 rw [textS_skip _ _ _ _ _ (esc_le _ hne).2.1,List.drop_drop]
theorem textS_open {acc : L} {n op : Nat} {s : ByteArray} {k : Nat} (h : k < s.size) (hc : s[k] = 40) : textS acc n op 0 (s.data.toList.drop k) = textS (acc ++ [s[k]]) (n + 1) (op + 1) 0 (s.data.toList.drop (k + 1)):=by
 rw [drop_get s k h,hc];simp [textS,eol]
theorem textS_shut {acc : L} {n : Nat} {s : ByteArray} {k : Nat} (h : k < s.size) (hc : s[k] = 41) : textS acc n 1 0 (s.data.toList.drop k) = .good (acc,n + 1):=by
 rw [drop_get s k h,hc];simp [textS,eol]
theorem textS_close {acc : L} {n op : Nat} {s : ByteArray} {k : Nat} (h : k < s.size) (hc : s[k] = 41) (ho : ¬ op = 1) : textS acc n op 0 (s.data.toList.drop k) = textS (acc ++ [s[k]]) (n + 1) (op - 1) 0 (s.data.toList.drop (k + 1)):=by
 rw [drop_get s k h,hc];simp [textS,eol,ho]
theorem textS_plain {acc : L} {n op : Nat} {s : ByteArray} {k : Nat} (h : k < s.size) (he : eol s[k] = false) (h1 : ¬ s[k] = 92) (h2 : ¬ s[k] = 40) (h3 : ¬ s[k] = 41) : textS acc n op 0 (s.data.toList.drop k) = textS (acc ++ [s[k]]) (n + 1) op 0 (s.data.toList.drop (k + 1)):=by
 rw [drop_get s k h];simp [textS,he,h1,h2,h3]
end Go.Proofs.YtfgdhcemidlnfaaGreatDoor
