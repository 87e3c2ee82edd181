/- Parts of the proof: WfA RefA WfB RwA GChk. -/
import Derived.Test.YtfgdhcemidlnfaaGreatDoorWqb
import Derived.Test.YtfgdhcemidlnfaaGreatDoorWqc
import Derived.Laws.AppendOwnNone
import Derived.Test.YtfgdhcemidlnfaaGreatDoorWqa
import Derived.BigQuiet
import Derived.Deep.QuietTactic
import Derived.Deep.RegionHeld3
import Derived.Sort.Walk0
set_option linter.all false
set_option maxRecDepth 100000
set_option maxHeartbeats 8000000
namespace Go.Proofs.YtfgdhcemidlnfaaGreatDoor
open Go.RowKit Fo
theorem ext10 (n : Nat) : (⟨#[48,49,50,51,52,53,54,55,56,57]⟩ : ByteArray).extract (n % 10) (n % 10 + 1) = ⟨[UInt8.ofNat (48 + n % 10)].toArray⟩:=by
 have h : n % 10 = 0 ∨ n % 10 = 1 ∨ n % 10 = 2 ∨ n % 10 = 3 ∨ n % 10 = 4 ∨ n % 10 = 5 ∨ n % 10 = 6 ∨ n % 10 = 7 ∨ n % 10 = 8 ∨ n % 10 = 9:=by omega
 rcases h with h | h | h | h | h | h | h | h | h | h <;> rw [h] <;> rfl
theorem r4digits (n : Nat) : n < 1000000000000 → ∀ w,Calls Tryz.prog 99 #[.int .i64 n] w fun e w' => e = .returned (.string ⟨(digU n).toArray⟩) ∧ w = w':=by
 induction n using Nat.strongRecOn with
 | _ n ih =>
   intro hn w
   have HX:=Lh (ext10 n)
   by_cases h : n < 10
   · have hd : digU n = [UInt8.ofNat (48 + n % 10)]:=by unfold digU;rw [if_pos h,Nat.mod_eq_of_lt h]
     have HD:=Lh hd
     clear hd ih
     go_enter Tryz.func99,Tryz.ntmps99
     go_wp2
     go_ret
     rw [HD.out,HX.out]
     exact ⟨rfl,rfl⟩
   · have hd : digU n = digU (n / 10) ++ [UInt8.ofNat (48 + n % 10)]:=by rw [digU,if_neg h]
     have H1:=Lh (ih (n / 10) (by omega) (by omega))
     have hl:=digU_len (n / 10) 12 (by omega)
     have HD:=Lh hd
     clear hd ih
     go_enter Tryz.func99,Tryz.ntmps99
     go_wp2_with fail
     refine (H1.out _).mono ?_
     rintro e w1 ⟨rfl,rfl⟩
     go_wp2
     go_ret
     rw [HD.out,HX.out,← ba_app]
     exact ⟨rfl,rfl⟩
theorem r8digits (n : Nat) : n < 1000000000000 → ∀ w,Calls Tryz.prog 59 #[.int .i64 n] w fun e w' => e = .returned (.string ⟨(digU n).toArray⟩) ∧ w = w':=by
 induction n using Nat.strongRecOn with
 | _ n ih =>
   intro hn w
   have HX:=Lh (ext10 n)
   by_cases h : n < 10
   · have hd : digU n = [UInt8.ofNat (48 + n % 10)]:=by unfold digU;rw [if_pos h,Nat.mod_eq_of_lt h]
     have HD:=Lh hd
     clear hd ih
     go_enter Tryz.func59,Tryz.ntmps59
     go_wp2
     go_ret
     rw [HD.out,HX.out]
     exact ⟨rfl,rfl⟩
   · have hd : digU n = digU (n / 10) ++ [UInt8.ofNat (48 + n % 10)]:=by rw [digU,if_neg h]
     have H1:=Lh (ih (n / 10) (by omega) (by omega))
     have hl:=digU_len (n / 10) 12 (by omega)
     have HD:=Lh hd
     clear hd ih
     go_enter Tryz.func59,Tryz.ntmps59
     go_wp2_with fail
     refine (H1.out _).mono ?_
     rintro e w1 ⟨rfl,rfl⟩
     go_wp2
     go_ret
     rw [HD.out,HX.out,← ba_app]
     exact ⟨rfl,rfl⟩
theorem r18digits (n : Nat) : n < 1000000000000 → ∀ w,Calls Tryz.prog 66 #[.int .i64 n] w fun e w' => e = .returned (.string ⟨(digU n).toArray⟩) ∧ Below w.heap.size w w':=by
 induction n using Nat.strongRecOn with
 | _ n ih =>
   intro hn w
   by_cases h : n < 10
   · have hd : digU n = [UInt8.ofNat (48 + n)]:=by unfold digU;rw [if_pos h]
     have HD:=Lh hd
     clear hd ih
     go_enter Tryz.func66,Tryz.ntmps66
     go_wp2_with fail
     rw [conv_one _ _ (by simp [isByte,go_sem])]
     go_wp2
     go_ret
     refine ⟨?_,bel⟩
     rw [HD.out];simp [cellByte,go_sem]
     rw [show ((48 : Int) + (n : Int)).toNat = 48 + n by omega];simp
   · have hd : digU n = digU (n / 10) ++ [UInt8.ofNat (48 + n % 10)]:=by rw [digU,if_neg h]
     have hd2 : digU (n % 10) = [UInt8.ofNat (48 + n % 10)]:=by rw [digU,if_pos (by omega)]
     have H1:=Lh (ih (n / 10) (by omega) (by omega))
     have H2:=Lh (ih (n % 10) (by omega) (by omega))
     have hl:=digU_len (n / 10) 12 (by omega)
     rw [hd2] at H2
     have HD:=Lh hd
     clear hd hd2 ih
     go_enter Tryz.func66,Tryz.ntmps66
     go_wp2_with fail
     refine (H1.out _).mono ?_
     rintro e w1 ⟨rfl,hb1⟩
     go_wp2_with fail
     refine (H2.out _).mono ?_
     rintro e w2 ⟨rfl,hb2⟩
     have hz1:=hb1.size
     go_wp2
     go_ret
     refine ⟨?_,bel⟩
     rw [HD.out,← ba_app];simp
theorem r18pad (n k : Nat) (hn : n < 1000000000000) (hk : k ≤ 20) (w : World) : Calls Tryz.prog 67 #[.int .i64 n,.int .i64 k] w fun e w' => e = .returned (.string ⟨(padW k n).toArray⟩) ∧ Below w.heap.size w w':=by
 have hl:=digU_len n 12 (by omega)
 obtain ⟨T,hT⟩ : ∃ T,digU n = T:=⟨_,rfl⟩
 have HP:=Lh (show padW k n = List.replicate (k - T.length) 48 ++ T by unfold padW;rw [hT])
 have HD:=Lh (fun W => r18digits n hn W)
 rw [hT] at hl HD
 clear hT
 go_enter Tryz.func67,Tryz.ntmps67
 go_wp2_with fail
 refine (HD.out _).mono ?_
 rintro e w1 ⟨rfl,hb1⟩
 go_wp2
 go_loopw [5] (fun s wr => ∃ l : L,l.length ≤ 40 ∧ s = .string ⟨l.toArray⟩ ∧ Below w.heap.size w wr ∧ Hid (∃ j : Nat,l = List.replicate j 48 ++ T ∧ j ≤ k - T.length)) (fun s _ => k - strSz s)
 case atStart => exact ⟨T,by omega,rfl,hb1,Lh ⟨0,rfl,Nat.zero_le _⟩⟩
 case round =>
   obtain ⟨l,hl2,rfl,hbr,HJ⟩:=hrel
   have HS:=Lh (show (⟨#[48]⟩ ++ ⟨l.toArray⟩ : ByteArray) = ⟨(48 :: l).toArray⟩ by rw [show (⟨#[48]⟩ : ByteArray) = ⟨([48] : L).toArray⟩ from rfl,ba_app];rfl)
   by_cases hlt : l.length < k
   · go_wp2
     go_roundw
     case rel =>
       refine ⟨48 :: l,by simp;omega,by rw [HS.out],hbr,Lh ?_⟩
       obtain ⟨j,e,hj⟩:=HJ.out
       have e2 : l.length = j + T.length:=by rw [e];simp
       exact ⟨j + 1,by rw [e];rfl,by omega⟩
     case measure => rw [HS.out,strSz_s,strSz_s];simp;omega
   · go_wp2
     go_ret
     refine ⟨?_,hbr⟩
     obtain ⟨j,e,hj⟩:=HJ.out
     have e2 : l.length = j + T.length:=by rw [e];simp
     rw [HP.out,e,show j = k - T.length by omega]
     rfl
theorem r4int (n : Int) (h1 : -2147483647 ≤ n) (h2 : n ≤ 2147483647) (w : World) : Calls Tryz.prog 68 #[.int .i64 n] w fun e w' => e = .returned (.tuple #[.string ⟨(digI n).toArray⟩,.int .i64 0]) ∧ w = w':=by
 by_cases h : n < 0
 · obtain ⟨m,hm⟩ : ∃ m : Nat,n.natAbs = m:=⟨_,rfl⟩
   have hd : digI n = [45] ++ digU m:=by unfold digI;rw [if_pos h,hm];rfl
   have hn : n = -(m : Int):=by omega
   subst hn
   have HD:=Lh (show (⟨#[45]⟩ ++ ⟨(digU m).toArray⟩ : ByteArray) = ⟨(digI (-(m : Int))).toArray⟩ by rw [hd,← ba_app])
   have H1:=Lh (fun W => r4digits m (by omega) W)
   have hl:=digU_len m 12 (by omega)
   clear hd hm
   go_enter Tryz.func68,Tryz.ntmps68
   go_wp2_with fail
   refine (H1.out _).mono ?_
   rintro e w1 ⟨rfl,rfl⟩
   go_wp2
   go_ret2
   rw [← HD.out]
   exact ⟨rfl,rfl⟩
 · obtain ⟨m,rfl⟩ : ∃ m : Nat,n = m:=⟨n.toNat,by omega⟩
   have hd : digI (m : Int) = digU m:=by unfold digI;rw [if_neg h];rfl
   rw [hd]
   have H1:=Lh (fun W => r4digits m (by omega) W)
   clear hd
   go_enter Tryz.func68,Tryz.ntmps68
   go_wp2_with fail
   refine (H1.out _).mono ?_
   rintro e w1 ⟨rfl,rfl⟩
   go_wp2
   go_ret2
   exact ⟨rfl,rfl⟩
theorem r7number (n : Int) (h1 : -2147483647 ≤ n) (h2 : n ≤ 2147483647) (w : World) : Calls Tryz.prog 153 #[.int .i64 n] w fun e w' => e = .returned (.string ⟨(digI n).toArray⟩) ∧ w = w':=by
 have H1:=Lh (fun W => r4int n h1 h2 W)
 go_enter Tryz.func153,Tryz.ntmps153
 go_wp2_with fail
 refine (H1.out _).mono ?_
 rintro e w1 ⟨rfl,rfl⟩
 go_wp2
 go_ret
 exact ⟨rfl,rfl⟩
theorem r17tail (n : Nat) (hn : n ≤ 2147483647) (w : World) : Calls Tryz.prog 29 #[.int .i64 n] w fun e w' => e = .returned (.string ⟨(tailW n).toArray⟩) ∧ w = w':=by
 have hd : digI (n : Int) = digU n:=by unfold digI;rw [if_neg (by omega)];rfl
 have H1:=Lh (fun W => r4int n (by omega) (by omega) W)
 rw [hd] at H1
 have hl:=digU_len n 12 (by omega)
 obtain ⟨T,hT⟩ : ∃ T,digU n = T:=⟨_,rfl⟩
 have HR:=Lh (show ((⟨wStart.toArray⟩ ++ ⟨T.toArray⟩ : ByteArray) ++ ⟨wEof.toArray⟩ : ByteArray) = ⟨(tailW n).toArray⟩ by
   unfold tailW;rw [hT,ba_app,ba_app,List.append_assoc])
 rw [hT] at H1 hl
 clear hd hT
 go_enter Tryz.func29,Tryz.ntmps29
 go_wp2_with fail
 refine (H1.out _).mono ?_
 rintro e w1 ⟨rfl,rfl⟩
 go_wp2
 go_ret
 rw [← HR.out]
 exact ⟨rfl,rfl⟩
theorem r17text (w : World) : Calls Tryz.prog 60 #[.int .i64 7] w fun e w' => e = .returned (.tuple #[.string ⟨headW.toArray⟩,.int .i64 0]) ∧ w = w':=by
 go_enter Tryz.func60,Tryz.ntmps60
 go_wp2
 trace_state
 go_ret2
 exact ⟨rfl,rfl⟩
theorem white_nat (c : UInt8) : white c = decide (c.toNat = 0 ∨ c.toNat = 9 ∨ c.toNat = 10 ∨ c.toNat = 12 ∨ c.toNat = 13 ∨ c.toNat = 32):=by
 simpa using u8_all (fun c => white c == decide (c.toNat = 0 ∨ c.toNat = 9 ∨ c.toNat = 10 ∨ c.toNat = 12 ∨ c.toNat = 13 ∨ c.toNat = 32)) (by decide +kernel) c
theorem delim_nat (c : UInt8) : delim c = decide (c.toNat = 40 ∨ c.toNat = 41 ∨ c.toNat = 60 ∨ c.toNat = 62 ∨ c.toNat = 91 ∨ c.toNat = 93 ∨ c.toNat = 123 ∨ c.toNat = 125 ∨ c.toNat = 47 ∨ c.toNat = 37):=by
 simpa using u8_all (fun c => delim c == decide (c.toNat = 40 ∨ c.toNat = 41 ∨ c.toNat = 60 ∨ c.toNat = 62 ∨ c.toNat = 91 ∨ c.toNat = 93 ∨ c.toNat = 123 ∨ c.toNat = 125 ∨ c.toNat = 47 ∨ c.toNat = 37)) (by decide +kernel) c
theorem rwhite (c : UInt8) (w : World) : Calls Tryz.prog 101 #[.int .u8 c.toNat] w fun e w' => e = .returned (.bool (white c)) ∧ w' = w:=by
 go_enter Tryz.func101,Tryz.ntmps101
 go_wp2
 all_goals go_ret
 all_goals exact ⟨ret_bool (by rw [white_nat];symm;first | (rw [decide_eq_true_eq];omega) | (rw [decide_eq_false_iff_not];omega) | (rw [Bool.eq_iff_iff];simp only [decide_eq_true_eq,Bool.or_eq_true,beq_iff_eq];omega)),rfl⟩
theorem rdelim (c : UInt8) (w : World) : Calls Tryz.prog 200 #[.int .u8 c.toNat] w fun e w' => e = .returned (.bool (delim c)) ∧ w' = w:=by
 go_enter Tryz.func200,Tryz.ntmps200
 go_wp2
 all_goals go_ret
 all_goals exact ⟨ret_bool (by rw [delim_nat];symm;first | (rw [decide_eq_true_eq];omega) | (rw [decide_eq_false_iff_not];omega) | (rw [Bool.eq_iff_iff];simp only [decide_eq_true_eq,Bool.or_eq_true,beq_iff_eq];omega)),rfl⟩
theorem rregular (c : UInt8) (w : World) : Calls Tryz.prog 152 #[.int .u8 c.toNat] w fun e w' => e = .returned (.bool (regular c)) ∧ w' = w:=by
 have H1:=Lh (fun W => rwhite c W)
 have H2:=Lh (fun W => rdelim c W)
 have HR:=Lh (show regular c = (!white c && !delim c) from rfl)
 obtain ⟨b1,hb1⟩ : ∃ b,white c = b:=⟨_,rfl⟩
 obtain ⟨b2,hb2⟩ : ∃ b,delim c = b:=⟨_,rfl⟩
 rw [hb1] at H1 HR
 rw [hb2] at H2 HR
 clear hb1 hb2
 cases b1 <;> cases b2
 all_goals
   go_enter Tryz.func152,Tryz.ntmps152
   go_wp2_with (first | (go_at_call 101;refine (H1.out _).mono ?_;rintro e w' ⟨rfl,rfl⟩) | (go_at_call 200;refine (H2.out _).mono ?_;rintro e w' ⟨rfl,rfl⟩))
   go_ret
   exact ⟨ret_bool (by rw [HR.out];rfl),rfl⟩
theorem escW_four (c : UInt8) : (escW c).length ≤ 4:=by unfold escW;split <;> simp
theorem escW_bad (c : UInt8) (h : (c.toNat : Int) < 33 ∨ (126 : Int) < c.toNat ∨ c.toNat = 35 ∨ delim c = true) : escW c = [35,hexD (c.toNat / 16),hexD (c.toNat % 16)]:=by
 unfold escW
 rw [if_neg]
 simp only [Bool.and_eq_true,decide_eq_true_eq,UInt8.lt_iff_toNat_lt,UInt8.le_iff_toNat_le,bne_iff_ne,Bool.not_eq_true',ne_eq,not_and]
 intro h1 h2
 have e1 : (32 : UInt8).toNat = 32:=rfl
 have e2 : (126 : UInt8).toNat = 126:=rfl
 obtain ⟨⟨g1,g2⟩,g3⟩:=h1
 rw [e1] at g1
 rw [e2] at g2
 rcases h with h | h | h | h
 · omega
 · omega
 · exact g3 (UInt8.toNat_inj.1 (show c.toNat = (35 : UInt8).toNat from h))
 · rw [h] at h2;cases h2
theorem escW_good (c : UInt8) (h1 : ¬ (c.toNat : Int) < 33) (h2 : ¬ (126 : Int) < c.toNat) (h3 : c.toNat ≠ 35) (h4 : delim c = false) : escW c = [c]:=by
 unfold escW
 rw [if_pos]
 have e1 : (32 : UInt8).toNat = 32:=rfl
 have e2 : (126 : UInt8).toNat = 126:=rfl
 simp only [Bool.and_eq_true,decide_eq_true_eq,UInt8.lt_iff_toNat_lt,UInt8.le_iff_toNat_le,bne_iff_ne,Bool.not_eq_true',e1,e2]
 exact ⟨⟨⟨by omega,by omega⟩,fun e => h3 (by rw [e];rfl)⟩,h4⟩
theorem r4nameB (s : ByteArray) (hs : s.size ≤ 127) (hz : ∀ k (h : k < s.size),s[k].toNat ≠ 0) (w : World) : Calls Tryz.prog 154 #[.string s] w fun e w' => e = .returned (.tuple #[.string ⟨(nameW s.data.toList).toArray⟩,.int .i64 0]) ∧ Below w.heap.size w w':=by
 obtain ⟨T,hT⟩ : ∃ T,nameW s.data.toList = T:=⟨_,rfl⟩
 rw [hT]
 have HT:=Lh (show [47] ++ (s.data.toList.drop 0).flatMap escW = T by unfold nameW at hT;simpa using hT)
 have HZ:=Lh hz
 clear hT hz
 go_enter Tryz.func154,Tryz.ntmps154
 go_wp2
 go_loopw [4,5] (fun o i wr => ∃ (k : Nat) (l : L),k ≤ s.size ∧ i = .int .i64 k ∧ o = .string ⟨l.toArray⟩ ∧ l.length ≤ 1 + 4 * k ∧ Below w.heap.size w wr ∧ Hid (l ++ (s.data.toList.drop k).flatMap escW = T)) (fun _ i _ => s.size - (intOf i).toNat)
 case atStart => exact ⟨0,[47],by omega,by go_num,rfl,by simp,Below.refl _ _,HT⟩
 case round =>
   obtain ⟨k,l,hk,rfl,rfl,hl,hbr,H⟩:=hrel
   clear HT
   by_cases hlt : k < s.size
   · have y1 : l.length + 1 ≤ 9223372036854775807:=by omega
     have y2 : l.length + 1 + 2 ≤ 9223372036854775807:=by omega
     have y3 : l.length + 1 + 3 ≤ 9223372036854775807:=by omega
     have hc:=UInt8.toNat_lt s[k]
     have hc2 : (s[k].toNat : Int) < 256:=by omega
     have hnz:=HZ.out k hlt
     have c0 : ((s[k].toNat : Int) == 0) = false:=by simp;omega
     by_cases c1 : (s[k].toNat : Int) < 33
     · have HB:=Lh (show (s[k].toNat : Int) < 33 ∨ (126 : Int) < s[k].toNat ∨ s[k].toNat = 35 ∨ delim s[k] = true from .inl c1)
       have HC:=Lh (escW_bad s[k] HB.out)
       have hE:=ext1 s k hlt
       have hzr:=hbr.size
       go_wp2_with (first
         | (go_at_call 200;refine (rdelim _ _).mono ?_;rintro e w2 ⟨rfl,rfl⟩)
         | (go_at_call 201;refine (rhexc _ _).mono ?_;rintro e w2 ⟨rfl,hb2⟩))
       go_roundw
       case rel => exact ⟨k + 1,l ++ escW s[k],by omega,by go_num,val_str (by rw [HC.out];simp),by have:=escW_four s[k];simp;omega,bel,by have:=H.out;rw [drop_get s k hlt,List.flatMap_cons,← List.append_assoc] at this;exact Lh this⟩
       case measure => simp [intOf];omega
     by_cases c2 : (126 : Int) < s[k].toNat
     · have HB:=Lh (show (s[k].toNat : Int) < 33 ∨ (126 : Int) < s[k].toNat ∨ s[k].toNat = 35 ∨ delim s[k] = true from .inr (.inl c2))
       have HC:=Lh (escW_bad s[k] HB.out)
       have hE:=ext1 s k hlt
       have hzr:=hbr.size
       go_wp2_with (first
         | (go_at_call 200;refine (rdelim _ _).mono ?_;rintro e w2 ⟨rfl,rfl⟩)
         | (go_at_call 201;refine (rhexc _ _).mono ?_;rintro e w2 ⟨rfl,hb2⟩))
       go_roundw
       case rel => exact ⟨k + 1,l ++ escW s[k],by omega,by go_num,val_str (by rw [HC.out];simp),by have:=escW_four s[k];simp;omega,bel,by have:=H.out;rw [drop_get s k hlt,List.flatMap_cons,← List.append_assoc] at this;exact Lh this⟩
       case measure => simp [intOf];omega
     cases c3 : ((s[k].toNat : Int) == 35)
     · have n3 : s[k].toNat ≠ 35:=by simp at c3;omega
       cases c4 : delim s[k]
       · have HC:=Lh (escW_good s[k] c1 c2 n3 c4)
         have hE:=ext1 s k hlt
         clear n3
         go_wp2_with (go_at_call 200;go_must (refine (rdelim s[k] _).mono ?_);rintro e w2 ⟨rfl,rfl⟩)
         go_roundw
         case rel => exact ⟨k + 1,l ++ [s[k]],by omega,by go_num,val_str (by simp),by simp;omega,hbr,by have:=H.out;rw [drop_get s k hlt,List.flatMap_cons,HC.out,← List.append_assoc] at this;exact Lh this⟩
         case measure => simp [intOf];omega
       · have HB:=Lh (show (s[k].toNat : Int) < 33 ∨ (126 : Int) < s[k].toNat ∨ s[k].toNat = 35 ∨ delim s[k] = true from .inr (.inr (.inr c4)))
         clear n3
         have HC:=Lh (escW_bad s[k] HB.out)
         have hE:=ext1 s k hlt
         have hzr:=hbr.size
         go_wp2_with (first
           | (go_at_call 200;refine (rdelim _ _).mono ?_;rintro e w2 ⟨rfl,rfl⟩)
           | (go_at_call 201;refine (rhexc _ _).mono ?_;rintro e w2 ⟨rfl,hb2⟩))
         go_roundw
         case rel => exact ⟨k + 1,l ++ escW s[k],by omega,by go_num,val_str (by rw [HC.out];simp),by have:=escW_four s[k];simp;omega,bel,by have:=H.out;rw [drop_get s k hlt,List.flatMap_cons,← List.append_assoc] at this;exact Lh this⟩
         case measure => simp [intOf];omega
     · have HB:=Lh (show (s[k].toNat : Int) < 33 ∨ (126 : Int) < s[k].toNat ∨ s[k].toNat = 35 ∨ delim s[k] = true from .inr (.inr (.inl (by simp at c3;omega))))
       have HC:=Lh (escW_bad s[k] HB.out)
       have hE:=ext1 s k hlt
       have hzr:=hbr.size
       go_wp2_with (first
         | (go_at_call 200;refine (rdelim _ _).mono ?_;rintro e w2 ⟨rfl,rfl⟩)
         | (go_at_call 201;refine (rhexc _ _).mono ?_;rintro e w2 ⟨rfl,hb2⟩))
       go_roundw
       case rel => exact ⟨k + 1,l ++ escW s[k],by omega,by go_num,val_str (by rw [HC.out];simp),by have:=escW_four s[k];simp;omega,bel,by have:=H.out;rw [drop_get s k hlt,List.flatMap_cons,← List.append_assoc] at this;exact Lh this⟩
       case measure => simp [intOf];omega
   · have HX:=Lh (show l = T by have:=H.out;rw [List.drop_of_length_le (by simp;omega)] at this;simpa using this)
     clear H
     go_wp2
     go_ret2
     exact ⟨by rw [HX.out];rfl,hbr⟩
theorem r4name (s : L) (hs : nameB s = true) (w : World) : Calls Tryz.prog 154 #[.string ⟨s.toArray⟩] w fun e w' => e = .returned (.tuple #[.string ⟨(nameW s).toArray⟩,.int .i64 0]) ∧ Below w.heap.size w w':=by
 unfold nameB at hs
 simp at hs
 refine r4nameB ⟨s.toArray⟩ (by show s.length ≤ 127;exact hs.2) (fun k hk e => ?_) w
 have hk' : k < s.length:=hk
 have:=hs.1 s[k] (List.getElem_mem hk')
 apply this
 apply UInt8.toNat_inj.1
 exact e
theorem rappendR {α : Type} {E : Enc α} {t : TypeId} {ops : Array Oper} {rest : List Oper} {o : Oper} {a : Act} {Q : Exit → Act → World → Prop} {w : World} (hgd : o.guard = none) (s x : Operand) {ts : TypeId}
   (ho : o.op = .call { callee:=.builtin .append,args:=#[s,x],argTypes:=#[ts,ts] }) (ht : Tryz.prog.underlying ts = some (.slice t))
   {z : Value} {by' : Nat} (hin : (Tryz.prog.info? t).map (fun i => (i.zero,i.size,i.bytes)) = some (some z,E.k,by')) (hzk : z.cells.size = E.k) (hk0 : 0 < E.k) (hby : by' ≤ 1000)
   (B : Nat) (v y : Value) (xs ys : List α) (hown : rownS E t w B v xs) (hs : a.eval s = v) (hx : a.eval x = y) (hR : RArg E w y ys) (hnc : ∀ c,y = .slice none ys.length c → c = 0) (hlen : xs.length + ys.length ≤ 1000000000) (hB : B ≤ w.heap.size)
   (h : ∀ p q w',rownS E t w' B (.slice p (xs.length + ys.length) q) (xs ++ ys) → Below B w w' → w.grownBy w' v.ownBlock → wpList Tryz.prog ops Q rest (a.put o.dst (.slice p (xs.length + ys.length) q)) w') :
   wpList Tryz.prog ops Q (o :: rest) a w:=by
 obtain ⟨i0,hi,hz0,hz1,hz2⟩:=info_parts hin
 obtain ⟨p,c,rfl,hc⟩:=hR
 have hfin : ∀ v' w',w'.ownsRow B t E.k v' (xs.length + ys.length) (E.row xs ++ E.row ys) → w.grownBy w' v.ownBlock → wpList Tryz.prog ops Q rest (a.put o.dst v') w':=by
   intro v' w' hown' hg
   obtain ⟨p,q,rfl⟩:=rown_slice hown'
   refine h p q w' ?_ ((Below.refl B w).grown hg hB (own_base hown)) hg
   unfold rownS
   rw [E.row_append,List.length_append]
   exact hown'
 cases p with
 | none =>
   have hy : ys = []:=by
     cases ys with
     | nil => rfl
     | cons y ys =>
       obtain ⟨g,off,e,_⟩:=hc 0 (by simp)
       cases e
   subst hy
   obtain rfl:=hnc c rfl
   refine wpList_append_own_none hgd s x ts ho B t i0 E.k ht hi v xs.length _ hs hown hx ?_
   refine hfin v w (by have h1 : w.ownsRow B t E.k v xs.length (E.row xs):=hown;simpa [Enc.row] using h1) ⟨rfl,rfl,rfl,Nat.le_refl _,fun k hk _ => rfl⟩
 | some ad =>
   refine wpList_append_own _ hgd s x ts ho B t i0 z E.k by' ht hi hz0 hz1 hz2 hzk hk0 v xs.length _ hs hown ad ys.length c (E.row ys) hx (E.row_length ys) ?_ ?_ ?_ ?_ hB ?_
   · intro j u hj
     have hjl : j < ys.length * E.k:=by
       have:=(List.getElem?_eq_some_iff.1 hj).1
       rwa [E.row_length] at this
     have hq : j / E.k < ys.length:=Nat.div_lt_of_lt_mul (by rw [Nat.mul_comm];exact hjl)
     obtain ⟨g,off,e,_,hcc⟩:=hc (j / E.k) hq
     cases e
     have hm:=Nat.mod_lt j hk0
     have hj2 : j = j / E.k * E.k + j % E.k:=by rw [Nat.mul_comm];exact (Nat.div_add_mod j E.k).symm
     have hr:=E.row_at ys (j / E.k) hq (j % E.k) hm
     rw [← hj2,hj] at hr
     have:=hcc (j % E.k) u hr.symm
     rw [show off + j / E.k * E.k + j % E.k = off + j by omega] at this
     by_cases hj0 : j = 0 <;> simpa [Addr.add,hj0] using this
   · intro u hu
     unfold Enc.row at hu
     obtain ⟨y,_,hu⟩:=List.mem_flatMap.1 hu
     exact E.one y u hu
   · unfold maxLen;omega
   · exact Nat.le_trans (Nat.mul_le_mul_left _ hby) (by omega)
   · intro v' w' hown' hg _
     exact hfin v' w' hown' hg
theorem rappendT {α : Type} {E : Enc α} {t : TypeId} {ops : Array Oper} {o : Oper} {a : Act} {K : Act → World → Prop} {Q : Exit → Act → World → Prop} {F : Prop} {w : World} (hgd : o.guard = none) (s x : Operand) {ts : TypeId}
   (ho : o.op = .call { callee:=.builtin .append,args:=#[s,x],argTypes:=#[ts,ts] }) (ht : Tryz.prog.underlying ts = some (.slice t))
   {z : Value} {by' : Nat} (hin : (Tryz.prog.info? t).map (fun i => (i.zero,i.size,i.bytes)) = some (some z,E.k,by')) (hzk : z.cells.size = E.k) (hk0 : 0 < E.k) (hby : by' ≤ 1000)
   (B : Nat) (v y : Value) (xs ys : List α) (hown : rownS E t w B v xs) (hs : a.eval s = v) (hx : a.eval x = y) (hR : RArg E w y ys) (hne : 0 < ys.length) (hlen : xs.length + ys.length ≤ 1000000000) (hB : B ≤ w.heap.size)
   (h : ∀ p q w',rownS E t w' B (.slice p (xs.length + ys.length) q) (xs ++ ys) → Below B w w' → w.grownBy w' v.ownBlock → K (a.put o.dst (.slice p (xs.length + ys.length) q)) w') :
   if Region.wanted o (yielded ops a.tmps) = true then Oper.wp Tryz.prog o a w K Q else F:=by
 obtain ⟨i0,hi,hz0,hz1,hz2⟩:=info_parts hin
 obtain ⟨p,c,rfl,hc⟩:=hR
 obtain ⟨g,off,e,_⟩:=hc 0 hne
 subst e
 refine step_append_lies _ hgd s x ts ho B t i0 z E.k by' ht hi hz0 hz1 hz2 hzk hk0 v xs.length _ hs hown ⟨g,off,none⟩ ys.length c (E.row ys) hx (E.row_length ys) ?_ ?_ hne ?_ ?_ hB _ rfl ?_
 · intro j u hj
   have hjl : j < ys.length * E.k:=by
     have:=(List.getElem?_eq_some_iff.1 hj).1
     rwa [E.row_length] at this
   have hq : j / E.k < ys.length:=Nat.div_lt_of_lt_mul (by rw [Nat.mul_comm];exact hjl)
   obtain ⟨g,off,e,_,hcc⟩:=hc (j / E.k) hq
   cases e
   have hm:=Nat.mod_lt j hk0
   have hj2 : j = j / E.k * E.k + j % E.k:=by rw [Nat.mul_comm];exact (Nat.div_add_mod j E.k).symm
   have hr:=E.row_at ys (j / E.k) hq (j % E.k) hm
   rw [← hj2,hj] at hr
   have:=hcc (j % E.k) u hr.symm
   rw [show off + j / E.k * E.k + j % E.k = off + j by omega] at this
   by_cases hj0 : j = 0 <;> simpa [Addr.add,hj0] using this
 · intro u hu
   unfold Enc.row at hu
   obtain ⟨y,_,hu⟩:=List.mem_flatMap.1 hu
   exact E.one y u hu
 · unfold maxLen;omega
 · exact Nat.le_trans (Nat.mul_le_mul_left _ hby) (by omega)
 · intro g2 cap w' hown' hg _ _
   refine h _ cap w' ?_ ((Below.refl B w).grown hg hB (own_base hown)) hg
   unfold rownS
   rw [E.row_append,List.length_append]
   exact hown'
theorem row_apart {α : Type} {E : Enc α} {t : TypeId} {w w' : World} {B : Nat} {v u : Value} {xs : List α} (h : rownS E t w B v xs) (hlt : ∀ k,u.ownBlock = some k → k < B) (hg : w.grownBy w' u.ownBlock) : rownS E t w' B v xs:=by
 refine World.ownsRow.kept h hg ?_
 by_cases hu : v.ownBlock = none
 · exact .inl hu
 · refine .inr fun e => ?_
   obtain ⟨k,hk⟩:=Option.ne_none_iff_exists'.1 hu
   have h1:=hlt k (by rw [← e];exact hk)
   have h2:=own_base h k hk
   omega
theorem RArg_lit {α : Type} {E : Enc α} {w : World} {g c : Nat} {t : TypeId} {fr : Nat × Nat} {ys : List α} (h : w.heap[g]? = some (.cells (E.row ys).toArray t fr)) : RArg E w (.slice (some ⟨g,0,none⟩) ys.length c) ys:=by
 refine ⟨_,_,rfl,fun k hk => ⟨g,0,rfl,(Array.getElem?_eq_some_iff.1 h).1,fun i u hu => ?_⟩⟩
 have hi : i < E.k:=by have:=(List.getElem?_eq_some_iff.1 hu).1;rw [E.len] at this;exact this
 have:=E.row_at ys k hk i hi
 rw [hu] at this
 rw [Nat.zero_add]
 simp [World.cell?,h,this]
def encB : Enc UInt8 where
 k:=1
 cells x:=[.int .u8 x.toNat]
 len _:=rfl
 one x u hu:=by simp at hu;subst hu;rfl
theorem ownB_row {w : World} {B : Nat} {v : Value} {l : L} : ownB w B v l ↔ rownS encB 5 w B v l:=by
 have e : encB.row l = l.map fun c => .int .u8 c.toNat:=by induction l with
   | nil => rfl
   | cons c l ih => show _ :: encB.row l = _;rw [ih];rfl
 unfold rownS ownB
 rw [e]
 exact Iff.rfl
def smallO : Nat → Ob → Prop
 | 0,_ => False
 | d + 1,o => o.keys.length ≤ 140737488355328 ∧ o.kids.length ≤ 140737488355328 ∧ o.s.length ≤ 140737488355328 ∧ (∀ x ∈ o.keys,x.length ≤ 140737488355328) ∧ ∀ k ∈ o.kids,smallO d k
theorem okO_small : ∀ (d : Nat) (o : Ob),okO d o → smallO d o
 | 0,_,h => h.elim
 | d + 1,o,h => by
   obtain ⟨h1,h2,h3,h4,h5,h6,h7⟩:=h
   have hlo : longB o.kind ≤ 1048576:=by unfold longB;split <;> (try split) <;> omega
   suffices h : o.keys.length ≤ 140737488355328 ∧ ∀ x ∈ o.keys,x.length ≤ 140737488355328 from ⟨h.1,by omega,by omega,h.2,fun k hk => okO_small d k (h7 k hk)⟩
   by_cases hk : o.kind = 7
   · unfold keysB at h6
     rw [if_neg (by omega),if_neg (by omega)] at h6
     simp only [Bool.and_eq_true,beq_iff_eq] at h6
     refine ⟨by omega,fun x hx => ?_⟩
     obtain ⟨i,hi,rfl⟩:=List.mem_iff_getElem.1 hx
     have h8:=List.all_eq_true.1 h6.2 i (List.mem_range.2 hi)
     unfold keyAt at h8
     simp only [Bool.and_eq_true] at h8
     have h9:=h8.1.1.1
     simp only [List.getD_eq_getElem?_getD,List.getElem?_eq_getElem hi,Option.getD_some,nameB,Bool.and_eq_true,decide_eq_true_eq] at h9
     omega
   · have : o.keys = [] := by
       unfold usesB at h1
       by_cases e0 : o.kind = 0
       · rw [if_pos e0] at h1;simp [zeroB] at h1;simp_all
       rw [if_neg e0] at h1
       by_cases e1 : o.kind = 1 ∨ o.kind = 2 ∨ o.kind = 3
       · rw [if_pos e1] at h1;simp [zeroB] at h1;simp_all
       rw [if_neg e1] at h1
       by_cases e2 : o.kind = 4 ∨ o.kind = 5
       · rw [if_pos e2] at h1;simp [zeroB] at h1;simp_all
       rw [if_neg e2] at h1
       by_cases e3 : o.kind = 6
       · rw [if_pos e3] at h1;simp at h1;simp_all
       rw [if_neg e3,if_neg hk] at h1
       by_cases e4 : o.kind = 8
       · rw [if_pos e4] at h1;simp [zeroB] at h1;simp_all
       rw [if_neg e4,if_neg h2] at h1;cases h1
     simp [this]
def RowAt (S : Nat → Prop) (d : Nat) (w : World) (v : Value) (kids : List Ob) : Prop :=
 (kids = [] ∧ ∃ p c,v = .slice p 0 c) ∨
 ∃ b off c,v = .slice (some ⟨b,off,none⟩) kids.length c ∧ S b ∧
   ∀ i (h : i < kids.length),∃ ks : List Value,ks.length = 6 ∧ (∀ j (hj : j < ks.length),w.cell? ⟨b,off + 6 * i + j,none⟩ = some ks[j]) ∧ ObjAt S d w ks kids[i]
theorem RowAt.kept {S : Nat → Prop} {w w' : World} {d : Nat} {v : Value} {kids : List Ob} (h : RowAt S d w v kids) (hk : ∀ b,S b → w'.heap[b]? = w.heap[b]?) : RowAt S d w' v kids:=by
 rcases h with h | ⟨b,off,c,h1,h2,h3⟩
 · exact .inl h
 · refine .inr ⟨b,off,c,h1,h2,fun i hi => ?_⟩
   obtain ⟨ks,g1,g2,g3⟩:=h3 i hi
   exact ⟨ks,g1,fun j hj => (World.cell?_of_block (hk b h2)).trans (g2 j hj),ObjAt.kept hk d g3⟩
theorem ObjAt.form {S : Nat → Prop} {d : Nat} {w : World} {cs : List Value} {o : Ob} (h : ObjAt S d w cs o) : ∃ p1 n1 c1 p2 n2 c2,cs = objCells o.kind o.n o.g o.s (.slice p1 n1 c1) (.slice p2 n2 c2):=by
 cases d with
 | zero => exact h.elim
 | succ d =>
   obtain ⟨kv,dv,h1,h2,h3⟩:=h
   have a1 : ∃ p n c,kv = .slice p n c:=by
     rcases h2 with ⟨_,p,c,h⟩ | ⟨b,o,c,h,_⟩
     · exact ⟨_,_,_,h⟩
     · exact ⟨_,_,_,h⟩
   have a2 : ∃ p n c,dv = .slice p n c:=by
     rcases h3 with ⟨_,p,c,h⟩ | ⟨b,o,c,h,_⟩
     · exact ⟨_,_,_,h⟩
     · exact ⟨_,_,_,h⟩
   obtain ⟨p1,n1,c1,rfl⟩:=a1
   obtain ⟨p2,n2,c2,rfl⟩:=a2
   exact ⟨p1,n1,c1,p2,n2,c2,h1⟩
theorem row_kid {S : Nat → Prop} {d : Nat} {w : World} {b off n c : Nat} {os : List Ob} (h : RowAt S d w (.slice (some ⟨b, off, none⟩) n c) os) (hn : os.length = n) (k : Nat) (hk : k < n) :
   ∃ (o : Ob) (p1 : Option Addr) (n1 c1 : Nat) (p2 : Option Addr) (n2 c2 : Nat),os.getD k .zero = o ∧ o ∈ os ∧ S b ∧ ObjAt S d w (objCells o.kind o.n o.g o.s (.slice p1 n1 c1) (.slice p2 n2 c2)) o ∧
     w.cell? ⟨b,off + k * 6,none⟩ = some (.int .i64 o.kind) ∧ w.cell? ⟨b,off + k * 6 + 1,none⟩ = some (.int .i64 o.n) ∧ w.cell? ⟨b,off + k * 6 + 2,none⟩ = some (.int .i64 o.g) ∧
     w.cell? ⟨b,off + k * 6 + 3,none⟩ = some (.string ⟨o.s.toArray⟩) ∧ w.cell? ⟨b,off + k * 6 + 4,none⟩ = some (.slice p1 n1 c1) ∧ w.cell? ⟨b,off + k * 6 + 5,none⟩ = some (.slice p2 n2 c2):=by
 rcases h with ⟨rfl,p,c',h1⟩ | ⟨b',off',c',h1,h2,h3⟩
 · simp at hn;omega
 · cases h1
   have hk' : k < os.length:=by omega
   obtain ⟨ks,g1,g2,g3⟩:=h3 k hk'
   obtain ⟨p1,n1,c1,p2,n2,c2,rfl⟩:=g3.form
   refine ⟨os[k],p1,n1,c1,p2,n2,c2,by simp [List.getD,hk'],List.getElem_mem hk',h2,g3,?_⟩
   have e : off + 6 * k = off + k * 6:=by omega
   rw [e] at g2
   exact ⟨g2 0 (by simp [objCells]),g2 1 (by simp [objCells]),g2 2 (by simp [objCells]),g2 3 (by simp [objCells]),g2 4 (by simp [objCells]),g2 5 (by simp [objCells])⟩
theorem six_keep {B b o : Nat} {w w1 : World} {v0 v1 v2 v3 v4 v5 : Value} (hb : Below B w w1) (hl : b < B)
   (h : w.cell? ⟨b,o,none⟩ = some v0 ∧ w.cell? ⟨b,o + 1,none⟩ = some v1 ∧ w.cell? ⟨b,o + 2,none⟩ = some v2 ∧ w.cell? ⟨b,o + 3,none⟩ = some v3 ∧ w.cell? ⟨b,o + 4,none⟩ = some v4 ∧ w.cell? ⟨b,o + 5,none⟩ = some v5) :
   w1.cell? ⟨b,o,none⟩ = some v0 ∧ w1.cell? ⟨b,o + 1,none⟩ = some v1 ∧ w1.cell? ⟨b,o + 2,none⟩ = some v2 ∧ w1.cell? ⟨b,o + 3,none⟩ = some v3 ∧ w1.cell? ⟨b,o + 4,none⟩ = some v4 ∧ w1.cell? ⟨b,o + 5,none⟩ = some v5:=by
 obtain ⟨h0,h1,h2,h3,h4,h5⟩:=h
 refine ⟨?_,?_,?_,?_,?_,?_⟩ <;> (refine (hb.cell hl).trans ?_;assumption)
def SameC (S : Nat → Prop) (d : Nat) : Prop:=∀ (w : World) (csa csb : List Value) (o : Ob),ObjAt S d w csa o → ObjAt S d w csb o → smallO d o → (∀ b,S b → b < w.heap.size) →
 Calls Tryz.prog 15 #[.agg csa.toArray,.agg csb.toArray] w fun e w' => e = .returned (.bool true) ∧ Below w.heap.size w w'
theorem list_cons (S : Nat → Prop) (d : Nat) (HC : SameC S d) (b1 o1 c1 b2 o2 c2 : Nat) (os : List Ob) (w : World) (hl : os.length ≤ 140737488355328) (hsm : ∀ o ∈ os, smallO d o)
   (h1 : RowAt S d w (.slice (some ⟨b1,o1,none⟩) os.length c1) os) (h2 : RowAt S d w (.slice (some ⟨b2,o2,none⟩) os.length c2) os) (hS : ∀ b,S b → b < w.heap.size) :
   Calls Tryz.prog 40 #[.slice (some ⟨b1,o1,none⟩) os.length c1,.slice (some ⟨b2,o2,none⟩) os.length c2] w fun e w' => e = .returned (.bool true) ∧ Below w.heap.size w w':=by
 obtain ⟨n,hn⟩ : ∃ n,os.length = n:=⟨_,rfl⟩
 have HH:=Lh HC
 have HM:=Lh hsm
 have H1:=Lh h1
 have H2:=Lh h2
 have HS:=Lh hS
 rw [hn] at hl
 rw [hn]
 have HN:=Lh hn
 clear h1 h2 hn hS hsm HC
 go_enter Tryz.func40,Tryz.ntmps40
 go_wp2
 go_loopw [13] (fun i wr => ∃ k : Nat,k ≤ n ∧ i = .int .i64 k ∧ Below w.heap.size w wr) (fun i _ => n - (intOf i).toNat)
 case atStart => exact ⟨0,Nat.zero_le _,rfl,bel⟩
 case round =>
   obtain ⟨k,hk,rfl,hb⟩:=hrel
   by_cases hlt : k < n
   · obtain ⟨x,p1,n1,e1,p2,n2,e2,hx,hxm,s1,O1,f0,f1,f2,f3,f4,f5⟩:=row_kid (H1.out.kept (fun b h => hb.block b (HS.out b h))) rfl k (by rw [HN.out];exact hlt)
     obtain ⟨x',p3,n3,e3,p4,n4,e4,hx',_,s2,O2,g0,g1,g2,g3,g4,g5⟩:=row_kid (H2.out.kept (fun b h => hb.block b (HS.out b h))) rfl k (by rw [HN.out];exact hlt)
     obtain rfl : x = x':=hx.symm.trans hx'
     have hS2 : ∀ b,S b → b < wr.heap.size:=fun b h => Nat.lt_of_lt_of_le (HS.out b h) hb.size
     have HX:=Lh (fun (W : World) (hW : Below wr.heap.size wr W) => HH.out W _ _ x (O1.kept (fun b h => hW.block b (hS2 b h)) d) (O2.kept (fun b h => hW.block b (hS2 b h)) d) (HM.out x hxm) (fun b h => Nat.lt_of_lt_of_le (hS2 b h) hW.size))
     unfold objCells at HX
     have L1 : b1 < wr.heap.size:=hS2 _ s1
     have L2 : b2 < wr.heap.size:=hS2 _ s2
     clear hx hx' O1 O2 hS2 hxm
     go_wp2
     go_region_held3 (fun w' => w'.cell? ⟨b1, o1 + k * 6, none⟩ = some (.int .i64 x.kind) ∧ w'.cell? ⟨b1, o1 + k * 6 + 1, none⟩ = some (.int .i64 x.n) ∧ w'.cell? ⟨b1, o1 + k * 6 + 2, none⟩ = some (.int .i64 x.g) ∧ w'.cell? ⟨b1, o1 + k * 6 + 3, none⟩ = some (.string ⟨x.s.toArray⟩) ∧ w'.cell? ⟨b1, o1 + k * 6 + 4, none⟩ = some (.slice p1 n1 e1) ∧ w'.cell? ⟨b1, o1 + k * 6 + 5, none⟩ = some (.slice p2 n2 e2) ∧
         w'.cell? ⟨b2,o2 + k * 6,none⟩ = some (.int .i64 x.kind) ∧ w'.cell? ⟨b2,o2 + k * 6 + 1,none⟩ = some (.int .i64 x.n) ∧ w'.cell? ⟨b2,o2 + k * 6 + 2,none⟩ = some (.int .i64 x.g) ∧ w'.cell? ⟨b2,o2 + k * 6 + 3,none⟩ = some (.string ⟨x.s.toArray⟩) ∧ w'.cell? ⟨b2,o2 + k * 6 + 4,none⟩ = some (.slice p3 n3 e3) ∧ w'.cell? ⟨b2,o2 + k * 6 + 5,none⟩ = some (.slice p4 n4 e4)) (go_keep)
       ((go_at_call 15;refine (HX.out _ bel).mono ?_;rintro e w1 ⟨rfl,hb1⟩;have hbw : Below wr.heap.size wr w1:=bel;obtain ⟨k0,k1,k2,k3,k4,k5⟩:=six_keep hbw L1 ⟨f0,f1,f2,f3,f4,f5⟩;obtain ⟨l0,l1,l2,l3,l4,l5⟩:=six_keep hbw L2 ⟨g0,g1,g2,g3,g4,g5⟩;clear f0 f1 f2 f3 f4 f5 g0 g1 g2 g3 g4 g5))
     all_goals go_wp2
     all_goals
       go_roundw
       case rel => exact ⟨k + 1,by omega,by go_num,hb.trans (hbw.mono hb.size)⟩
       case measure => simp [intOf];omega
   · go_wp2
     go_ret
     exact ⟨rfl,hb⟩
theorem ObjAt.form2 {S : Nat → Prop} {d : Nat} {w : World} {cs : List Value} {o : Ob} (h : ObjAt S d w cs o) : ∃ p1 c1 p2 c2,cs = objCells o.kind o.n o.g o.s (.slice p1 o.keys.length c1) (.slice p2 o.kids.length c2):=by
 cases d with
 | zero => exact h.elim
 | succ d =>
   obtain ⟨kv,dv,h1,h2,h3⟩:=h
   have a1 : ∃ p c,kv = .slice p o.keys.length c:=by
     rcases h2 with ⟨e,p,c,h⟩ | ⟨b,o,c,h,_⟩
     · exact ⟨_,_,by rw [e];exact h⟩
     · exact ⟨_,_,h⟩
   have a2 : ∃ p c,dv = .slice p o.kids.length c:=by
     rcases h3 with ⟨e,p,c,h⟩ | ⟨b,o,c,h,_⟩
     · exact ⟨_,_,by rw [e];exact h⟩
     · exact ⟨_,_,h⟩
   obtain ⟨p1,c1,rfl⟩:=a1
   obtain ⟨p2,c2,rfl⟩:=a2
   exact ⟨p1,c1,p2,c2,h1⟩
def zeroV (N G : Int) (s : L) (n1 n2 : Nat) (n g t l : Bool) : Bool:=(n || N == 0) && (g || G == 0) && (t || s.isEmpty) && (l || ((n1 : Int) == 0 && (n2 : Int) == 0))
theorem zero_in (K N G : Int) (s : L) (p1 p2 : Option Addr) (n1 c1 n2 c2 : Nat) (n g t l : Bool) (w : World) :
   Calls Tryz.prog 165 #[.agg #[.int .i64 K,.int .i64 N,.int .i64 G,.string ⟨s.toArray⟩,.slice p1 n1 c1,.slice p2 n2 c2],.bool n,.bool g,.bool t,.bool l] w fun e w' => e = .returned (.bool (zeroV N G s n1 n2 n g t l)) ∧ Below w.heap.size w w':=by
 cases n <;> cases g <;> cases t <;> cases l
 all_goals
   go_enter Tryz.func165,Tryz.ntmps165
   go_wp2
   all_goals go_ret
   all_goals exact ⟨ret_bool (by unfold zeroV;simp_all),bel⟩
def usesV (K N G : Int) (s : L) (n1 n2 : Nat) : Bool :=
 if K = 0 then zeroV N G s n1 n2 false false false false
 else if K = 1 ∨ K = 2 ∨ K = 3 then zeroV N G s n1 n2 true false false false
 else if K = 4 ∨ K = 5 then zeroV N G s n1 n2 false false true false
 else if K = 6 then zeroV N G s n1 n2 false false false true && ((n1 : Int) == 0)
 else if K = 7 then zeroV N G s n1 n2 false false false true
 else if K = 8 then zeroV N G s n1 n2 true true false false
 else if K = 9 then zeroV N G s n1 n2 false false true true
 else false
theorem uses_in (K N G : Int) (s : L) (p1 p2 : Option Addr) (n1 c1 n2 c2 : Nat) (w : World) :
   Calls Tryz.prog 116 #[.agg #[.int .i64 K,.int .i64 N,.int .i64 G,.string ⟨s.toArray⟩,.slice p1 n1 c1,.slice p2 n2 c2]] w fun e w' => e = .returned (.bool (usesV K N G s n1 n2)) ∧ Below w.heap.size w w':=by
 have HZ:=Lh (fun n g t l W => zero_in K N G s p1 p2 n1 c1 n2 c2 n g t l W)
 go_enter Tryz.func116,Tryz.ntmps116
 go_wp2_with (go_at_call 165;refine (HZ.out _ _ _ _ _).mono ?_;rintro e w1 ⟨rfl,hb1⟩;obtain ⟨hc,hf⟩:=bcell hb1;have hz:=hb1.size;simp at hz)
 all_goals go_ret
 all_goals exact ⟨ret_bool (by unfold usesV;simp_all),bel⟩
theorem take_snoc_b (s : ByteArray) (k : Nat) (h : k < s.size) : s.data.toList.take (k + 1) = s.data.toList.take k ++ [s[k]]:=by
 rw [List.take_succ_eq_append_getElem (by simpa using h)];rfl
theorem name_in' (x : L) (w : World) (hx : x.length ≤ 140737488355328) :
   Calls Tryz.prog 166 #[.string ⟨x.toArray⟩] w fun e w' => e = .returned (.bool (nameB x)) ∧ w' = w:=by
 obtain ⟨s,hs⟩ : ∃ s : ByteArray,s = ⟨x.toArray⟩:=⟨_,rfl⟩
 have hsx : s.data.toList = x:=by rw [hs]
 rw [← hs]
 have hn : s.size ≤ 140737488355328:=by rw [hs];exact hx
 have HX:=Lh hsx
 clear hs hsx hx
 go_enter Tryz.func166,Tryz.ntmps166
 go_wp2
 go_loop [3] (fun i => ∃ k : Nat,k ≤ s.size ∧ i = .int .i64 k ∧ Hid (((x.take k).all (· != 0)) = true)) (fun i => s.size - (intOf i).toNat)
 case atStart => exact ⟨0,Nat.zero_le _,rfl,Lh (by simp)⟩
 case round =>
   obtain ⟨k,hk,rfl,HA⟩:=hrel
   by_cases hlt : k < s.size
   · have hsn : x.take (k + 1) = x.take k ++ [s[k]] := by
       have:=HX.out
       subst this
       exact take_snoc_b s k hlt
     have H2:=Lh hsn
     clear hsn
     by_cases h0 : s[k] = 0
     · have h0' : ((s[k].toNat : Int) == 0) = true:=eq_yes (n:=0) (by decide) h0
       have H0:=Lh h0
       clear h0
       go_wp2
       go_ret
       refine ⟨ret_bool ?_,rfl⟩
       symm
       unfold nameB
       have h1 : ¬ (x.all (· != 0)) = true:=by
         intro h
         have h3 : (x.take (k + 1)).all (· != 0) = true:=by
           rw [List.all_eq_true] at h ⊢
           exact fun c hc => h c (List.mem_of_mem_take hc)
         rw [H2.out,List.all_append,H0.out] at h3
         simp at h3
       simp [h1]
     · have h0' : ((s[k].toNat : Int) == 0) = false:=eq_no (n:=0) (by decide) h0
       have H0:=Lh h0
       clear h0
       go_wp2
       go_round
       case rel =>
         refine ⟨k + 1,by omega,by go_num,Lh ?_⟩
         rw [H2.out,List.all_append,HA.out]
         simpa using H0.out
       case measure => simp [intOf];omega
   · have hke : k = s.size:=by omega
     have hxe : x.take k = x:=List.take_of_length_le (by rw [← HX.out,hke];exact Nat.le_refl _)
     have hxs : s.size = x.length:=by rw [← HX.out];rfl
     rw [hxe] at HA
     have H2:=Lh hxs
     clear hke hxe hxs
     go_wp2
     go_ret
     exact ⟨ret_bool (by unfold nameB;rw [HA.out,← H2.out];simp;omega),rfl⟩
theorem long_in (K : Int) (w : World) :
   Calls Tryz.prog 118 #[.int .i64 K] w fun e w' => e = .returned (.int .i64 (longB K)) ∧ w' = w:=by
 go_enter Tryz.func118,Tryz.ntmps118
 go_wp2
 all_goals go_ret
 all_goals exact ⟨ret_int (by unfold longB;simp_all),rfl⟩
def fitsV (K N G : Int) : Bool :=
 if K = 1 then N == 0 || N == 1
 else if K = 2 then decide (-2147483647 ≤ N) && decide (N ≤ 2147483647)
 else if K = 3 then decide (-1073741824 ≤ N) && decide (N ≤ 1073741824)
 else if K = 8 then decide (1 ≤ N) && decide (N ≤ 8191) && decide (0 ≤ G) && decide (G ≤ 65535)
 else true
theorem fits_in (K N G : Int) (s : L) (p1 p2 : Option Addr) (n1 c1 n2 c2 : Nat) (w : World) :
   Calls Tryz.prog 117 #[.agg #[.int .i64 K,.int .i64 N,.int .i64 G,.string ⟨s.toArray⟩,.slice p1 n1 c1,.slice p2 n2 c2]] w fun e w' => e = .returned (.bool (fitsV K N G)) ∧ Below w.heap.size w w':=by
 go_enter Tryz.func117,Tryz.ntmps117
 go_wp2
 all_goals go_ret
 all_goals exact ⟨ret_bool (by unfold fitsV;first | (simp_all;done) | (simp_all;omega)),bel⟩
theorem key_at {S : Nat → Prop} {w : World} {b off n c : Nat} {ks : List L} (h : KeysAt S w (.slice (some ⟨b, off, none⟩) n c) ks) (hn : ks.length = n) (k : Nat) (hk : k < n) :
   S b ∧ w.cell? ⟨b,off + k,none⟩ = some (.string ⟨(ks.getD k []).toArray⟩):=by
 rcases h with ⟨rfl,p,c',h1⟩ | ⟨b',off',c',h1,h2,h3⟩
 · simp at hn;omega
 · cases h1
   have hk' : k < ks.length:=by omega
   exact ⟨h2,by have:=h3 k hk';simpa [List.getD,hk'] using this⟩
theorem rowKinds {S : Nat → Prop} {d : Nat} {w : World} {b off n c : Nat} {os : List Ob} (h : RowAt S d w (.slice (some ⟨b, off, none⟩) n c) os) (hn : os.length = n) (k : Nat) (hk : k < n) :
   S b ∧ w.cell? ⟨b,off + k * 6,none⟩ = some (.int .i64 (os.getD k .zero).kind):=by
 obtain ⟨o,p1,n1,c1,p2,n2,c2,h1,h2,h3,h4,h5,_⟩:=row_kid h hn k hk
 rw [h1];exact ⟨h3,h5⟩
theorem keysB_false {o : Ob} {k : Nat} (h7 : o.kind = 7 ∨ o.kind = 9) (hk : k < o.keys.length) (h : keyAt o k = false) : keysB o = false:=by
 unfold keysB
 rw [if_neg (by omega),if_neg (by omega)]
 rw [Bool.and_eq_false_iff];right
 rw [List.all_eq_false]
 exact ⟨k,List.mem_range.2 hk,by simp [h]⟩
theorem less_no {x y : L} (h1 : Op.bytesLess x y = false) (h2 : (x == y) = false) : decide (y < x) = true:=by
 rw [bytesLess_eq] at h1
 have h1' : ¬ x < y:=by simpa using h1
 have h2' : ¬ x = y:=by simpa using h2
 rw [decide_eq_true_eq]
 rcases List.le_total x y with h | h
 · exact absurd (Classical.byContradiction fun h3 => h2' (List.le_antisymm h h3)) h1'
 · exact Classical.byContradiction fun h3 => h2' (List.le_antisymm h3 h)
theorem less_yes {x y : L} (h : Op.bytesLess x y = true ∨ x = y) : decide (y < x) = false:=by
 rw [decide_eq_false_iff_not]
 rcases h with h | rfl
 · rw [bytesLess_eq,decide_eq_true_eq] at h;exact List.lt_asymm h
 · exact List.lt_irrefl _
theorem keys_dict (S : Nat → Prop) (d : Nat) (o : Ob) (b1 f1 c1 b2 f2 c2 : Nat) (w : World) (hK : KeysAt S w (.slice (some ⟨b1,f1,none⟩) o.keys.length c1) o.keys) (hR : RowAt S d w (.slice (some ⟨b2,f2,none⟩) o.kids.length c2) o.kids) (hS : ∀ b,S b → b < w.heap.size) (hk : o.kind = 7) (hl : o.keys.length = o.kids.length) (hle : o.keys.length ≤ 140737488355328) (hx : ∀ x ∈ o.keys,x.length ≤ 140737488355328) : Calls Tryz.prog 119 #[.agg #[.int .i64 o.kind,.int .i64 o.n,.int .i64 o.g,.string ⟨o.s.toArray⟩,.slice (some ⟨b1,f1,none⟩) o.keys.length c1,.slice (some ⟨b2,f2,none⟩) o.kids.length c2]] w fun e w' => e = .returned (.bool (keysB o)) ∧ Below w.heap.size w w':=by
 obtain ⟨n,hn⟩ : ∃ n,o.keys.length = n:=⟨_,rfl⟩
 have HK:=Lh hK
 have HR:=Lh hR
 have HS:=Lh hS
 have HX:=Lh hx
 rw [← hl,hn]
 rw [hn] at hle
 have HN:=Lh (And.intro hn (hl.symm.trans hn))
 rw [hk]
 have HK0:=Lh hk
 clear hK hR hS hn hl hx hk
 go_enter Tryz.func119,Tryz.ntmps119
 go_wp2
 go_loopw [29] (fun i wr => ∃ k : Nat,k ≤ n ∧ i = .int .i64 k ∧ Below (w.heap.size + 1) (w.alloc (.cells #[.int .i64 7,.int .i64 o.n,.int .i64 o.g,.string ⟨o.s.toArray⟩,.slice (some ⟨b1,f1,none⟩) n c1,.slice (some ⟨b2,f2,none⟩) n c2] 26)) wr ∧ Hid (∀ j,j < k → keyAt o j = true)) (fun i _ => n - (intOf i).toNat)
 case atStart => exact ⟨0,Nat.zero_le _,rfl,bel,Lh (by intro j hj;omega)⟩
 case round =>
   obtain ⟨k,hk,rfl,hb,HA⟩:=hrel
   by_cases hlt : k < n
   · have hbw : Below w.heap.size w wr:=(show Below w.heap.size w (w.alloc _) from bel).trans (hb.mono (by omega))
     obtain ⟨s1,g1⟩:=key_at (HK.out.kept (fun b h => hbw.block b (HS.out b h))) rfl k (by rw [HN.out.1];exact hlt)
     obtain ⟨s2,g2⟩:=rowKinds (HR.out.kept (fun b h => hbw.block b (HS.out b h))) rfl k (by rw [HN.out.2];exact hlt)
     have hp : 0 < k → wr.cell? ⟨b1,f1 + (k - 1),none⟩ = some (.string ⟨(o.keys.getD (k - 1) []).toArray⟩):=fun h => (key_at (HK.out.kept (fun b h => hbw.block b (HS.out b h))) rfl (k - 1) (by rw [HN.out.1];omega)).2
     obtain ⟨x,hx⟩ : ∃ x,o.keys.getD k [] = x:=⟨_,rfl⟩
     obtain ⟨y,hy⟩ : ∃ y,o.keys.getD (k - 1) [] = y:=⟨_,rfl⟩
     obtain ⟨kk,hkk⟩ : ∃ kk,(o.kids.getD k .zero).kind = kk:=⟨_,rfl⟩
     rw [hx] at g1
     rw [hy] at hp
     rw [hkk] at g2
     have c0 : wr.cell? ⟨w.heap.size,0,none⟩ = some (.int .i64 7):=by rw [hb.cell (p:=⟨w.heap.size,0,none⟩) (by show w.heap.size < _;omega)];simp [World.cell?_alloc_at]
     have c4 : wr.cell? ⟨w.heap.size,4,none⟩ = some (.slice (some ⟨b1,f1,none⟩) n c1):=by rw [hb.cell (p:=⟨w.heap.size,4,none⟩) (by show w.heap.size < _;omega)];simp [World.cell?_alloc_at]
     have c5 : wr.cell? ⟨w.heap.size,5,none⟩ = some (.slice (some ⟨b2,f2,none⟩) n c2):=by rw [hb.cell (p:=⟨w.heap.size,5,none⟩) (by show w.heap.size < _;omega)];simp [World.cell?_alloc_at]
     have hxm : x.length ≤ 140737488355328:=by
       rw [← hx]; exact HX.out _ (by have : k < o.keys.length := by rw [HN.out.1]; exact hlt
                                     simp [List.getD,this])
     have HNM:=Lh (fun W => name_in' x W hxm)
     have HC:=Lh (show keyAt o k = (nameB x && (k == 0 || decide (y < x)) && !(x == wLength && o.kind == 9) && kk != 0) by unfold keyAt;rw [hx,hy,hkk])
     have HF:=Lh (fun h => keysB_false (o:=o) (k:=k) (by rw [HK0.out];decide) (by rw [HN.out.1];exact hlt) h)
     have hk9:=HK0.out
     rw [hk9] at HC
     clear hx hy hkk hxm hbw hk9
     cases hq : nameB x
     · rw [hq] at HC HNM
       have HF1:=Lh (HF.out (by rw [HC.out];simp))
       clear hp hq
       go_wp2_with (go_at_call 166;refine (HNM.out _).mono ?_;rintro e w1 ⟨rfl,rfl⟩)
       all_goals go_ret
       all_goals exact ⟨ret_bool HF1.out.symm,bel⟩
     · rw [hq] at HC HNM
       cases hle : (decide (0 < k) && (Op.bytesLess x y || x == y))
       · have hle2 : 0 < k → Op.bytesLess x y = false ∧ (x == y) = false:=fun h => by simpa [h] using hle
         have HC2:=Lh (show keyAt o k = (!(x == wLength && (7 : Int) == 9) && kk != 0) by
           rw [HC.out]
           by_cases h0 : k = 0
           · subst h0;simp
           · have:=hle2 (by omega)
             rw [less_no this.1 this.2];simp)
         clear hle HC
         have HZ0:=Lh (show kk = 0 ∨ ¬ kk = 0 from Classical.em _)
         by_cases hw : x = ([76,101,110,103,116,104] : L)
         · subst hw
           cases hz : (kk == 0)
           · have HZ:=Lh hz
             by_cases h0 : 0 < k
             · have hp':=hp h0
               obtain ⟨h1,h2⟩:=hle2 h0
               clear hp hle2
               go_wp2_with (go_at_call 166;refine (HNM.out _).mono ?_;rintro e w1 ⟨rfl,rfl⟩)
               go_roundw
               case rel => exact ⟨k + 1,by omega,by go_num,by exact hb,Lh (fun j hj => by
                 by_cases hjk : j < k
                 · exact HA.out j hjk
                 · have : j = k:=by omega
                   subst this
                   rw [HC2.out];have a2:=HZ.out;first | (simp [wLength];done) | (simp [wLength] at a2 ⊢;exact a2) | (simp [wLength,HW.out] at a2 ⊢;exact a2))⟩
               case measure => simp [intOf];omega
             · have hk0 : k = 0:=by omega
               subst hk0
               simp only [Nat.add_zero,Nat.zero_mul] at g1 g2
               clear hp hle2
               go_wp2_with (go_at_call 166;refine (HNM.out _).mono ?_;rintro e w1 ⟨rfl,rfl⟩)
               go_roundw
               case rel => exact ⟨1,by omega,by go_num,by exact hb,Lh (fun j hj => by
                 by_cases hjk : j < 0
                 · exact HA.out j hjk
                 · have : j = 0:=by omega
                   subst this
                   rw [HC2.out];have a2:=HZ.out;first | (simp [wLength];done) | (simp [wLength] at a2 ⊢;exact a2) | (simp [wLength,HW.out] at a2 ⊢;exact a2))⟩
               case measure => simp [intOf];omega
           · have HZ:=Lh hz
             by_cases h0 : 0 < k
             · have hp':=hp h0
               obtain ⟨h1,h2⟩:=hle2 h0
               clear hp hle2
               go_wp2_with (go_at_call 166;refine (HNM.out _).mono ?_;rintro e w1 ⟨rfl,rfl⟩)
               go_ret
               exact ⟨ret_bool (HF.out (by rw [HC2.out];have a2:=HZ.out;first | (simp [wLength];done) | (simp [wLength] at a2 ⊢;exact a2) | (simp [wLength,HW.out] at a2 ⊢;exact a2))).symm,bel⟩
             · have hk0 : k = 0:=by omega
               subst hk0
               simp only [Nat.add_zero,Nat.zero_mul] at g1 g2
               clear hp hle2
               go_wp2_with (go_at_call 166;refine (HNM.out _).mono ?_;rintro e w1 ⟨rfl,rfl⟩)
               go_ret
               exact ⟨ret_bool (HF.out (by rw [HC2.out];have a2:=HZ.out;first | (simp [wLength];done) | (simp [wLength] at a2 ⊢;exact a2) | (simp [wLength,HW.out] at a2 ⊢;exact a2))).symm,bel⟩
         · have hw' : (x == ([76,101,110,103,116,104] : L)) = false:=by simpa using hw
           have HW:=Lh hw'
           cases hz : (kk == 0)
           · have HZ:=Lh hz
             by_cases h0 : 0 < k
             · have hp':=hp h0
               obtain ⟨h1,h2⟩:=hle2 h0
               clear hp hle2
               go_wp2_with (go_at_call 166;refine (HNM.out _).mono ?_;rintro e w1 ⟨rfl,rfl⟩)
               go_roundw
               case rel => exact ⟨k + 1,by omega,by go_num,by exact hb,Lh (fun j hj => by
                 by_cases hjk : j < k
                 · exact HA.out j hjk
                 · have : j = k:=by omega
                   subst this
                   rw [HC2.out];have a2:=HZ.out;first | (simp [wLength];done) | (simp [wLength] at a2 ⊢;exact a2) | (simp [wLength,HW.out] at a2 ⊢;exact a2))⟩
               case measure => simp [intOf];omega
             · have hk0 : k = 0:=by omega
               subst hk0
               simp only [Nat.add_zero,Nat.zero_mul] at g1 g2
               clear hp hle2
               go_wp2_with (go_at_call 166;refine (HNM.out _).mono ?_;rintro e w1 ⟨rfl,rfl⟩)
               go_roundw
               case rel => exact ⟨1,by omega,by go_num,by exact hb,Lh (fun j hj => by
                 by_cases hjk : j < 0
                 · exact HA.out j hjk
                 · have : j = 0:=by omega
                   subst this
                   rw [HC2.out];have a2:=HZ.out;first | (simp [wLength];done) | (simp [wLength] at a2 ⊢;exact a2) | (simp [wLength,HW.out] at a2 ⊢;exact a2))⟩
               case measure => simp [intOf];omega
           · have HZ:=Lh hz
             by_cases h0 : 0 < k
             · have hp':=hp h0
               obtain ⟨h1,h2⟩:=hle2 h0
               clear hp hle2
               go_wp2_with (go_at_call 166;refine (HNM.out _).mono ?_;rintro e w1 ⟨rfl,rfl⟩)
               go_ret
               exact ⟨ret_bool (HF.out (by rw [HC2.out];have a2:=HZ.out;first | (simp [wLength];done) | (simp [wLength] at a2 ⊢;exact a2) | (simp [wLength,HW.out] at a2 ⊢;exact a2))).symm,bel⟩
             · have hk0 : k = 0:=by omega
               subst hk0
               simp only [Nat.add_zero,Nat.zero_mul] at g1 g2
               clear hp hle2
               go_wp2_with (go_at_call 166;refine (HNM.out _).mono ?_;rintro e w1 ⟨rfl,rfl⟩)
               go_ret
               exact ⟨ret_bool (HF.out (by rw [HC2.out];have a2:=HZ.out;first | (simp [wLength];done) | (simp [wLength] at a2 ⊢;exact a2) | (simp [wLength,HW.out] at a2 ⊢;exact a2))).symm,bel⟩
       · have h0 : 0 < k:=by simp at hle;exact hle.1
         have h1 : Op.bytesLess x y = true ∨ x = y:=by simp at hle;exact hle.2
         have HF1 := Lib.hid (HF.out (by rw [HC.out, less_yes h1]; have : k ≠ 0 := by omega
                                         simp [this]))
         have hp':=hp h0
         clear hp hle
         cases hb1 : Op.bytesLess x y
         · have hxy : x = y := by rcases h1 with h | h
                                  · rw [hb1] at h;cases h
                                  · exact h
           subst hxy
           clear h1
           go_wp2_with (go_at_call 166;refine (HNM.out _).mono ?_;rintro e w1 ⟨rfl,rfl⟩)
           go_ret
           exact ⟨ret_bool HF1.out.symm,bel⟩
         · clear h1
           go_wp2_with (go_at_call 166;refine (HNM.out _).mono ?_;rintro e w1 ⟨rfl,rfl⟩)
           go_ret
           exact ⟨ret_bool HF1.out.symm,bel⟩
   · have HE := Lib.hid (show keysB o = true by
       have hkn : k = n:=by omega
       unfold keysB
       rw [if_neg (by rw [HK0.out];decide),if_neg (by rw [HK0.out];decide),HN.out.1,HN.out.2]
       simp only [beq_self_eq_true,Bool.true_and,List.all_eq_true,List.mem_range]
       intro j hj;exact HA.out j (by omega))
     go_wp2
     go_ret
     exact ⟨ret_bool HE.out.symm,bel⟩
theorem keys_stream (S : Nat → Prop) (d : Nat) (o : Ob) (b1 f1 c1 b2 f2 c2 : Nat) (w : World) (hK : KeysAt S w (.slice (some ⟨b1,f1,none⟩) o.keys.length c1) o.keys) (hR : RowAt S d w (.slice (some ⟨b2,f2,none⟩) o.kids.length c2) o.kids) (hS : ∀ b,S b → b < w.heap.size) (hk : o.kind = 9) (hl : o.keys.length = o.kids.length) (hle : o.keys.length ≤ 140737488355328) (hx : ∀ x ∈ o.keys,x.length ≤ 140737488355328) : Calls Tryz.prog 119 #[.agg #[.int .i64 o.kind,.int .i64 o.n,.int .i64 o.g,.string ⟨o.s.toArray⟩,.slice (some ⟨b1,f1,none⟩) o.keys.length c1,.slice (some ⟨b2,f2,none⟩) o.kids.length c2]] w fun e w' => e = .returned (.bool (keysB o)) ∧ Below w.heap.size w w':=by
 obtain ⟨n,hn⟩ : ∃ n,o.keys.length = n:=⟨_,rfl⟩
 have HK:=Lh hK
 have HR:=Lh hR
 have HS:=Lh hS
 have HX:=Lh hx
 rw [← hl,hn]
 rw [hn] at hle
 have HN:=Lh (And.intro hn (hl.symm.trans hn))
 rw [hk]
 have HK0:=Lh hk
 clear hK hR hS hn hl hx hk
 go_enter Tryz.func119,Tryz.ntmps119
 go_wp2
 go_loopw [29] (fun i wr => ∃ k : Nat,k ≤ n ∧ i = .int .i64 k ∧ Below (w.heap.size + 1) (w.alloc (.cells #[.int .i64 9,.int .i64 o.n,.int .i64 o.g,.string ⟨o.s.toArray⟩,.slice (some ⟨b1,f1,none⟩) n c1,.slice (some ⟨b2,f2,none⟩) n c2] 26)) wr ∧ Hid (∀ j,j < k → keyAt o j = true)) (fun i _ => n - (intOf i).toNat)
 case atStart => exact ⟨0,Nat.zero_le _,rfl,bel,Lh (by intro j hj;omega)⟩
 case round =>
   obtain ⟨k,hk,rfl,hb,HA⟩:=hrel
   by_cases hlt : k < n
   · have hbw : Below w.heap.size w wr:=(show Below w.heap.size w (w.alloc _) from bel).trans (hb.mono (by omega))
     obtain ⟨s1,g1⟩:=key_at (HK.out.kept (fun b h => hbw.block b (HS.out b h))) rfl k (by rw [HN.out.1];exact hlt)
     obtain ⟨s2,g2⟩:=rowKinds (HR.out.kept (fun b h => hbw.block b (HS.out b h))) rfl k (by rw [HN.out.2];exact hlt)
     have hp : 0 < k → wr.cell? ⟨b1,f1 + (k - 1),none⟩ = some (.string ⟨(o.keys.getD (k - 1) []).toArray⟩):=fun h => (key_at (HK.out.kept (fun b h => hbw.block b (HS.out b h))) rfl (k - 1) (by rw [HN.out.1];omega)).2
     obtain ⟨x,hx⟩ : ∃ x,o.keys.getD k [] = x:=⟨_,rfl⟩
     obtain ⟨y,hy⟩ : ∃ y,o.keys.getD (k - 1) [] = y:=⟨_,rfl⟩
     obtain ⟨kk,hkk⟩ : ∃ kk,(o.kids.getD k .zero).kind = kk:=⟨_,rfl⟩
     rw [hx] at g1
     rw [hy] at hp
     rw [hkk] at g2
     have c0 : wr.cell? ⟨w.heap.size,0,none⟩ = some (.int .i64 9):=by rw [hb.cell (p:=⟨w.heap.size,0,none⟩) (by show w.heap.size < _;omega)];simp [World.cell?_alloc_at]
     have c4 : wr.cell? ⟨w.heap.size,4,none⟩ = some (.slice (some ⟨b1,f1,none⟩) n c1):=by rw [hb.cell (p:=⟨w.heap.size,4,none⟩) (by show w.heap.size < _;omega)];simp [World.cell?_alloc_at]
     have c5 : wr.cell? ⟨w.heap.size,5,none⟩ = some (.slice (some ⟨b2,f2,none⟩) n c2):=by rw [hb.cell (p:=⟨w.heap.size,5,none⟩) (by show w.heap.size < _;omega)];simp [World.cell?_alloc_at]
     have hxm : x.length ≤ 140737488355328:=by
       rw [← hx]; exact HX.out _ (by have : k < o.keys.length := by rw [HN.out.1]; exact hlt
                                     simp [List.getD,this])
     have HNM:=Lh (fun W => name_in' x W hxm)
     have HC:=Lh (show keyAt o k = (nameB x && (k == 0 || decide (y < x)) && !(x == wLength && o.kind == 9) && kk != 0) by unfold keyAt;rw [hx,hy,hkk])
     have HF:=Lh (fun h => keysB_false (o:=o) (k:=k) (by rw [HK0.out];decide) (by rw [HN.out.1];exact hlt) h)
     have hk9:=HK0.out
     rw [hk9] at HC
     clear hx hy hkk hxm hbw hk9
     cases hq : nameB x
     · rw [hq] at HC HNM
       have HF1:=Lh (HF.out (by rw [HC.out];simp))
       clear hp hq
       go_wp2_with (go_at_call 166;refine (HNM.out _).mono ?_;rintro e w1 ⟨rfl,rfl⟩)
       all_goals go_ret
       all_goals exact ⟨ret_bool HF1.out.symm,bel⟩
     · rw [hq] at HC HNM
       cases hle : (decide (0 < k) && (Op.bytesLess x y || x == y))
       · have hle2 : 0 < k → Op.bytesLess x y = false ∧ (x == y) = false:=fun h => by simpa [h] using hle
         have HC2:=Lh (show keyAt o k = (!(x == wLength && (9 : Int) == 9) && kk != 0) by
           rw [HC.out]
           by_cases h0 : k = 0
           · subst h0;simp
           · have:=hle2 (by omega)
             rw [less_no this.1 this.2];simp)
         clear hle HC
         have HZ0:=Lh (show kk = 0 ∨ ¬ kk = 0 from Classical.em _)
         by_cases hw : x = ([76,101,110,103,116,104] : L)
         · subst hw
           have HZ:=HZ0
           by_cases h0 : 0 < k
           · have hp':=hp h0
             obtain ⟨h1,h2⟩:=hle2 h0
             clear hp hle2
             go_wp2_with (go_at_call 166;refine (HNM.out _).mono ?_;rintro e w1 ⟨rfl,rfl⟩)
             go_ret
             exact ⟨ret_bool (HF.out (by rw [HC2.out];have a2:=HZ.out;first | (simp [wLength];done) | (simp [wLength] at a2 ⊢;exact a2) | (simp [wLength,HW.out] at a2 ⊢;exact a2))).symm,bel⟩
           · have hk0 : k = 0:=by omega
             subst hk0
             simp only [Nat.add_zero,Nat.zero_mul] at g1 g2
             clear hp hle2
             go_wp2_with (go_at_call 166;refine (HNM.out _).mono ?_;rintro e w1 ⟨rfl,rfl⟩)
             go_ret
             exact ⟨ret_bool (HF.out (by rw [HC2.out];have a2:=HZ.out;first | (simp [wLength];done) | (simp [wLength] at a2 ⊢;exact a2) | (simp [wLength,HW.out] at a2 ⊢;exact a2))).symm,bel⟩
         · have hw' : (x == ([76,101,110,103,116,104] : L)) = false:=by simpa using hw
           have HW:=Lh hw'
           cases hz : (kk == 0)
           · have HZ:=Lh hz
             by_cases h0 : 0 < k
             · have hp':=hp h0
               obtain ⟨h1,h2⟩:=hle2 h0
               clear hp hle2
               go_wp2_with (go_at_call 166;refine (HNM.out _).mono ?_;rintro e w1 ⟨rfl,rfl⟩)
               go_roundw
               case rel => exact ⟨k + 1,by omega,by go_num,by exact hb,Lh (fun j hj => by
                 by_cases hjk : j < k
                 · exact HA.out j hjk
                 · have : j = k:=by omega
                   subst this
                   rw [HC2.out];have a2:=HZ.out;first | (simp [wLength];done) | (simp [wLength] at a2 ⊢;exact a2) | (simp [wLength,HW.out] at a2 ⊢;exact a2))⟩
               case measure => simp [intOf];omega
             · have hk0 : k = 0:=by omega
               subst hk0
               simp only [Nat.add_zero,Nat.zero_mul] at g1 g2
               clear hp hle2
               go_wp2_with (go_at_call 166;refine (HNM.out _).mono ?_;rintro e w1 ⟨rfl,rfl⟩)
               go_roundw
               case rel => exact ⟨1,by omega,by go_num,by exact hb,Lh (fun j hj => by
                 by_cases hjk : j < 0
                 · exact HA.out j hjk
                 · have : j = 0:=by omega
                   subst this
                   rw [HC2.out];have a2:=HZ.out;first | (simp [wLength];done) | (simp [wLength] at a2 ⊢;exact a2) | (simp [wLength,HW.out] at a2 ⊢;exact a2))⟩
               case measure => simp [intOf];omega
           · have HZ:=Lh hz
             by_cases h0 : 0 < k
             · have hp':=hp h0
               obtain ⟨h1,h2⟩:=hle2 h0
               clear hp hle2
               go_wp2_with (go_at_call 166;refine (HNM.out _).mono ?_;rintro e w1 ⟨rfl,rfl⟩)
               go_ret
               exact ⟨ret_bool (HF.out (by rw [HC2.out];have a2:=HZ.out;first | (simp [wLength];done) | (simp [wLength] at a2 ⊢;exact a2) | (simp [wLength,HW.out] at a2 ⊢;exact a2))).symm,bel⟩
             · have hk0 : k = 0:=by omega
               subst hk0
               simp only [Nat.add_zero,Nat.zero_mul] at g1 g2
               clear hp hle2
               go_wp2_with (go_at_call 166;refine (HNM.out _).mono ?_;rintro e w1 ⟨rfl,rfl⟩)
               go_ret
               exact ⟨ret_bool (HF.out (by rw [HC2.out];have a2:=HZ.out;first | (simp [wLength];done) | (simp [wLength] at a2 ⊢;exact a2) | (simp [wLength,HW.out] at a2 ⊢;exact a2))).symm,bel⟩
       · have h0 : 0 < k:=by simp at hle;exact hle.1
         have h1 : Op.bytesLess x y = true ∨ x = y:=by simp at hle;exact hle.2
         have HF1 := Lib.hid (HF.out (by rw [HC.out, less_yes h1]; have : k ≠ 0 := by omega
                                         simp [this]))
         have hp':=hp h0
         clear hp hle
         cases hb1 : Op.bytesLess x y
         · have hxy : x = y := by rcases h1 with h | h
                                  · rw [hb1] at h;cases h
                                  · exact h
           subst hxy
           clear h1
           go_wp2_with (go_at_call 166;refine (HNM.out _).mono ?_;rintro e w1 ⟨rfl,rfl⟩)
           go_ret
           exact ⟨ret_bool HF1.out.symm,bel⟩
         · clear h1
           go_wp2_with (go_at_call 166;refine (HNM.out _).mono ?_;rintro e w1 ⟨rfl,rfl⟩)
           go_ret
           exact ⟨ret_bool HF1.out.symm,bel⟩
   · have HE := Lib.hid (show keysB o = true by
       have hkn : k = n:=by omega
       unfold keysB
       rw [if_neg (by rw [HK0.out];decide),if_neg (by rw [HK0.out];decide),HN.out.1,HN.out.2]
       simp only [beq_self_eq_true,Bool.true_and,List.all_eq_true,List.mem_range]
       intro j hj;exact HA.out j (by omega))
     go_wp2
     go_ret
     exact ⟨ret_bool HE.out.symm,bel⟩
theorem keys_name (o : Ob) (p1 p2 : Option Addr) (c1 c2 : Nat) (w : World) (hk : o.kind = 5) (hx : o.s.length ≤ 140737488355328) :
   Calls Tryz.prog 119 #[.agg #[.int .i64 o.kind,.int .i64 o.n,.int .i64 o.g,.string ⟨o.s.toArray⟩,.slice p1 o.keys.length c1,.slice p2 o.kids.length c2]] w fun e w' => e = .returned (.bool (keysB o)) ∧ Below w.heap.size w w':=by
 have HC:=Lh (show keysB o = nameB o.s by unfold keysB;rw [if_pos hk])
 rw [hk]
 clear hk
 have HNM:=Lh (fun W => name_in' o.s W hx)
 go_enter Tryz.func119,Tryz.ntmps119
 go_wp2_with (go_at_call 166;refine (HNM.out _).mono ?_;rintro e w1 ⟨rfl,rfl⟩)
 go_ret
 exact ⟨ret_bool HC.out.symm,bel⟩
theorem keys_other (o : Ob) (p1 p2 : Option Addr) (c1 c2 : Nat) (w : World) (h5 : o.kind ≠ 5) (h7 : o.kind ≠ 7) (h9 : o.kind ≠ 9) :
   Calls Tryz.prog 119 #[.agg #[.int .i64 o.kind,.int .i64 o.n,.int .i64 o.g,.string ⟨o.s.toArray⟩,.slice p1 o.keys.length c1,.slice p2 o.kids.length c2]] w fun e w' => e = .returned (.bool (keysB o)) ∧ Below w.heap.size w w':=by
 have HC:=Lh (show keysB o = true by unfold keysB;rw [if_neg h5,if_pos ⟨h7,h9⟩])
 have e5 : (o.kind == 5) = false:=by simpa using h5
 have e7 : (o.kind != 7) = true:=by simpa using h7
 have e9 : (o.kind != 9) = true:=by simpa using h9
 clear h5 h7 h9
 go_enter Tryz.func119,Tryz.ntmps119
 go_wp2
 go_ret
 exact ⟨ret_bool HC.out.symm,bel⟩
theorem keys_dif (o : Ob) (p1 p2 : Option Addr) (c1 c2 : Nat) (w : World) (h : o.kind = 7 ∨ o.kind = 9) (hl : o.keys.length ≠ o.kids.length) :
   Calls Tryz.prog 119 #[.agg #[.int .i64 o.kind,.int .i64 o.n,.int .i64 o.g,.string ⟨o.s.toArray⟩,.slice p1 o.keys.length c1,.slice p2 o.kids.length c2]] w fun e w' => e = .returned (.bool (keysB o)) ∧ Below w.heap.size w w':=by
 rcases h with hk | hk
 ·
   have HC:=Lh (show keysB o = false by unfold keysB;rw [if_neg (by omega),if_neg (by omega)];simp [hl])
   rw [hk]
   clear hk
   have hl' : ((o.keys.length : Int) != (o.kids.length : Int)) = true:=by simp;omega
   have hl2 : ¬ o.keys.length = o.kids.length:=hl
   obtain ⟨n1,hn1⟩ : ∃ n,o.keys.length = n:=⟨_,rfl⟩
   obtain ⟨n2,hn2⟩ : ∃ n,o.kids.length = n:=⟨_,rfl⟩
   rw [hn1,hn2] at hl' hl2
   rw [hn1,hn2]
   clear hn1 hn2 hl
   go_enter Tryz.func119,Tryz.ntmps119
   go_wp2
   go_ret
   exact ⟨ret_bool HC.out.symm,bel⟩
 ·
   have HC:=Lh (show keysB o = false by unfold keysB;rw [if_neg (by omega),if_neg (by omega)];simp [hl])
   rw [hk]
   clear hk
   have hl' : ((o.keys.length : Int) != (o.kids.length : Int)) = true:=by simp;omega
   have hl2 : ¬ o.keys.length = o.kids.length:=hl
   obtain ⟨n1,hn1⟩ : ∃ n,o.keys.length = n:=⟨_,rfl⟩
   obtain ⟨n2,hn2⟩ : ∃ n,o.kids.length = n:=⟨_,rfl⟩
   rw [hn1,hn2] at hl' hl2
   rw [hn1,hn2]
   clear hn1 hn2 hl
   go_enter Tryz.func119,Tryz.ntmps119
   go_wp2
   go_ret
   exact ⟨ret_bool HC.out.symm,bel⟩
theorem keys_nil (o : Ob) (p1 p2 : Option Addr) (c1 c2 : Nat) (w : World) (h : o.kind = 7 ∨ o.kind = 9) (h1 : o.keys.length = 0) (h2 : o.kids.length = 0) :
   Calls Tryz.prog 119 #[.agg #[.int .i64 o.kind,.int .i64 o.n,.int .i64 o.g,.string ⟨o.s.toArray⟩,.slice p1 o.keys.length c1,.slice p2 o.kids.length c2]] w fun e w' => e = .returned (.bool (keysB o)) ∧ Below w.heap.size w w':=by
 rcases h with hk | hk
 ·
   have HC:=Lh (show keysB o = true by unfold keysB;rw [if_neg (by omega),if_neg (by omega),h1,h2];simp)
   rw [hk]
   clear hk
   rw [h1,h2]
   clear h1 h2
   go_enter Tryz.func119,Tryz.ntmps119
   go_wp2
   refine wp_loop_rounds 1 ?_
   rw [rounds_succ]
   go_wp2
   go_ret
   exact ⟨ret_bool HC.out.symm,bel⟩
 ·
   have HC:=Lh (show keysB o = true by unfold keysB;rw [if_neg (by omega),if_neg (by omega),h1,h2];simp)
   rw [hk]
   clear hk
   rw [h1,h2]
   clear h1 h2
   go_enter Tryz.func119,Tryz.ntmps119
   go_wp2
   refine wp_loop_rounds 1 ?_
   rw [rounds_succ]
   go_wp2
   go_ret
   exact ⟨ret_bool HC.out.symm,bel⟩
theorem keys_in (S : Nat → Prop) (d : Nat) (o : Ob) (kv dv : Value) (w : World) (hK : KeysAt S w kv o.keys) (hR : RowAt S d w dv o.kids)
   (hS : ∀ b,S b → b < w.heap.size) (hle : o.keys.length ≤ 140737488355328) (hx : ∀ x ∈ o.keys,x.length ≤ 140737488355328) (hs : o.s.length ≤ 140737488355328) :
   Calls Tryz.prog 119 #[.agg #[.int .i64 o.kind,.int .i64 o.n,.int .i64 o.g,.string ⟨o.s.toArray⟩,kv,dv]] w fun e w' => e = .returned (.bool (keysB o)) ∧ Below w.heap.size w w':=by
 have a1 : ∃ p c,kv = .slice p o.keys.length c:=by
   rcases hK with ⟨e,p,c,h⟩ | ⟨b,o,c,h,_⟩
   · exact ⟨_,_,by rw [e];exact h⟩
   · exact ⟨_,_,h⟩
 have a2 : ∃ p c,dv = .slice p o.kids.length c:=by
   rcases hR with ⟨e,p,c,h⟩ | ⟨b,o,c,h,_⟩
   · exact ⟨_,_,by rw [e];exact h⟩
   · exact ⟨_,_,h⟩
 by_cases h5 : o.kind = 5
 · obtain ⟨p1,c1,rfl⟩:=a1
   obtain ⟨p2,c2,rfl⟩:=a2
   exact keys_name o p1 p2 c1 c2 w h5 hs
 by_cases h79 : o.kind = 7 ∨ o.kind = 9
 · by_cases hl : o.keys.length = o.kids.length
   · by_cases h0 : o.keys.length = 0
     · obtain ⟨p1,c1,rfl⟩:=a1
       obtain ⟨p2,c2,rfl⟩:=a2
       exact keys_nil o p1 p2 c1 c2 w h79 h0 (by omega)
     · have hK':=hK
       have hR':=hR
       rcases hK with ⟨e,_⟩ | ⟨b1,f1,c1,rfl,_⟩
       · rw [e] at h0;exact absurd rfl h0
       · rcases hR with ⟨e,_⟩ | ⟨b2,f2,c2,rfl,_⟩
         · rw [e] at hl;simp at hl;simp [hl] at h0
         · rcases h79 with h | h
           · exact keys_dict S d o b1 f1 c1 b2 f2 c2 w hK' hR' hS h hl hle hx
           · exact keys_stream S d o b1 f1 c1 b2 f2 c2 w hK' hR' hS h hl hle hx
   · obtain ⟨p1,c1,rfl⟩:=a1
     obtain ⟨p2,c2,rfl⟩:=a2
     exact keys_dif o p1 p2 c1 c2 w h79 hl
 · obtain ⟨p1,c1,rfl⟩:=a1
   obtain ⟨p2,c2,rfl⟩:=a2
   exact keys_other o p1 p2 c1 c2 w h5 (by omega) (by omega)
theorem uses_eq (o : Ob) : usesV o.kind o.n o.g o.s o.keys.length o.kids.length = usesB o:=by
 have hz : ∀ n g t l,zeroV o.n o.g o.s o.keys.length o.kids.length n g t l = zeroB o n g t l:=by
   intro n g t l
   unfold zeroV zeroB
   have e1 : ((o.keys.length : Int) == 0) = o.keys.isEmpty:=by cases o.keys <;> simp;omega
   have e2 : ((o.kids.length : Int) == 0) = o.kids.isEmpty:=by cases o.kids <;> simp;omega
   rw [e1,e2]
 have e1 : ((o.keys.length : Int) == 0) = o.keys.isEmpty:=by cases o.keys <;> simp;omega
 unfold usesV usesB
 simp only [hz,e1]
theorem fits_eq (o : Ob) : fitsV o.kind o.n o.g = fitsB o:=rfl
theorem longB_le (k : Int) : longB k ≤ 1048576:=by unfold longB;split <;> (try split) <;> omega
theorem firstBad_snoc {l : List Int} {x : Int} (h : ∀ y ∈ l,y = 0) (hx : x ≠ 0) (r : List Int) : firstBad (l ++ x :: r) = x:=by
 unfold firstBad
 rw [List.find?_append,List.find?_eq_none.2 (fun y hy => by simp [h y hy])]
 simp [hx]
def CheckC (S : Nat → Prop) (n : Nat) : Prop:=∀ (d : Nat) (w : World) (cs : List Value) (o : Ob),ObjAt S d w cs o → smallO d o → (∀ b,S b → b < w.heap.size) →
 Calls Tryz.prog 73 #[.agg cs.toArray,.int .i64 (25 - (n : Int))] w fun e w' => e = .returned (.int .i64 (checkB n o)) ∧ Below w.heap.size w w'
theorem check_zero (S : Nat → Prop) : CheckC S 0:=by
 intro d w cs o h _ _
 obtain ⟨p1,c1,p2,c2,rfl⟩:=h.form2
 unfold objCells
 go_enter Tryz.func73,Tryz.ntmps73
 go_wp2
 go_ret
 exact ⟨rfl,bel⟩
theorem check_step (S : Nat → Prop) (n : Nat) (hn : n < 24) (IH : CheckC S n) : CheckC S (n + 1):=by
 intro d w cs o hO hsm hS
 cases d with
 | zero => exact hO.elim
 | succ d =>
 obtain ⟨kv,dv,rfl,hK,hR0⟩:=hO
 have hR : RowAt S d w dv o.kids:=hR0
 clear hR0
 obtain ⟨m1,m2,m3,m4,m5⟩:=hsm
 have a1 : ∃ p c,kv = .slice p o.keys.length c:=by
   rcases hK with ⟨e,p,c,h⟩ | ⟨b,o,c,h,_⟩
   · exact ⟨_,_,by rw [e];exact h⟩
   · exact ⟨_,_,h⟩
 have a2 : ∃ p c,dv = .slice p o.kids.length c:=by
   rcases hR with ⟨e,p,c,h⟩ | ⟨b,o,c,h,_⟩
   · exact ⟨_,_,by rw [e];exact h⟩
   · exact ⟨_,_,h⟩
 obtain ⟨p1,c1,rfl⟩:=a1
 obtain ⟨p2,c2,rfl⟩:=a2
 have HU:=Lh (fun W => uses_in o.kind o.n o.g o.s p1 p2 o.keys.length c1 o.kids.length c2 W)
 rw [uses_eq] at HU
 have HFI:=Lh (fun W => fits_in o.kind o.n o.g o.s p1 p2 o.keys.length c1 o.kids.length c2 W)
 rw [fits_eq] at HFI
 have HLO:=Lh (fun W => long_in o.kind W)
 have HKE:=Lh (fun W (hW : Below w.heap.size w W) => keys_in S d o _ _ W (hK.kept (fun b h => hW.block b (hS b h))) (hR.kept (fun b h => hW.block b (hS b h))) (fun b h => Nat.lt_of_lt_of_le (hS b h) hW.size) m1 m4 m3)
 have HRW:=Lh (And.intro hR (And.intro m5 hS))
 obtain ⟨C,hC⟩ : ∃ C,checkB (n + 1) o = C:=⟨_,rfl⟩
 rw [hC]
 unfold checkB at hC
 obtain ⟨D,hD⟩ : ∃ D : Int,25 - ((n + 1 : Nat) : Int) = D:=⟨_,rfl⟩
 rw [hD]
 have hD1 : 1 ≤ D:=by omega
 have hD2 : D ≤ 24:=by omega
 have hDn : D + 1 = 25 - (n : Int):=by omega
 obtain ⟨K,hk0⟩ : ∃ K,o.kind = K:=⟨_,rfl⟩
 obtain ⟨nk,hnk⟩ : ∃ nk,o.kids.length = nk:=⟨_,rfl⟩
 obtain ⟨LG,hLG⟩ : ∃ LG,longB K = LG:=⟨_,rfl⟩
 obtain ⟨ss,hss⟩ : ∃ ss : ByteArray,ss = ⟨o.s.toArray⟩:=⟨_,rfl⟩
 have hns : o.s.length = ss.size:=by rw [hss];rfl
 have hd24 : decide (24 < D) = false:=by simp;omega
 have hn23 : (n != 23) = decide (1 < D):=by
   rw [Bool.eq_iff_iff];simp;omega
 rw [hn23] at hC
 unfold objCells
 rw [hk0] at hC HU HFI HLO HKE
 rw [hk0]
 rw [hLG] at hC HLO
 rw [hns] at hC m3
 rw [hnk] at hC HU HFI HKE HRW m2
 rw [hnk]
 rw [← hss] at HU HFI HKE
 rw [← hss]
 have HNK:=Lh (And.intro hnk hk0)
 have HDN:=Lh hDn
 have hLGb : LG ≤ 1048576:=hLG ▸ longB_le K
 clear hK hR hS m1 m4 m5 hD hk0 hnk hns hLG hss hn23 hDn
 cases hq1 : usesB o
 · rw [hq1] at HU hC
   have HC:=Lh hC
   clear hC hq1
   go_enter Tryz.func73,Tryz.ntmps73
   go_wp2_with fail
   refine (HU.out _).mono ?_
   rintro e w1 ⟨rfl,hb1⟩
   obtain ⟨hc1,hf1⟩:=bcell hb1
   have hz1:=hb1.size
   simp at hz1
   go_wp2
   go_ret
   exact ⟨ret_int (by rw [← HC.out];rfl),bel⟩
 rw [hq1] at HU hC
 cases hq2 : (K == 9 && decide (1 < D))
 · rw [hq2] at hC
   by_cases hq9 : K = 9
   · have hD3 : ¬ 1 < D:=by simp [hq9] at hq2;omega
     have hD4 : D = 1:=by omega
     subst hD4
     subst hq9
     clear hq1 hq2
     go_enter Tryz.func73,Tryz.ntmps73
     go_wp2_with fail
     refine (HU.out _).mono ?_
     rintro e w1 ⟨rfl,hb1⟩
     obtain ⟨hc1,hf1⟩:=bcell hb1
     have hz1:=hb1.size
     simp at hz1
     cases hq3 : fitsB o
     · rw [hq3] at hC HFI
       have HC:=Lh hC
       clear hC hq3
       go_wp2_with fail
       refine (HFI.out _).mono ?_
       rintro e w2 ⟨rfl,hb2⟩
       go_wp2
       go_ret
       exact ⟨ret_int (by rw [← HC.out];rfl),bel⟩
     rw [hq3] at hC HFI
     clear hq3
     go_wp2_with fail
     refine (HFI.out _).mono ?_
     rintro e w2 ⟨rfl,hb2⟩
     obtain ⟨hc2,hf2⟩:=bcell hb2
     have hz2:=hb2.size
     have q0 : w2.cell? ⟨w.heap.size,0,none⟩ = some (.int .i64 9):=by rw [hc2 _ _ (by omega),hc1 _ _ (by simp)];simp [go_sem]
     have q3 : w2.cell? ⟨w.heap.size,3,none⟩ = some (.string ss):=by rw [hc2 _ _ (by omega),hc1 _ _ (by simp)];simp [go_sem]
     have q1 : w2.cell? ⟨w.heap.size,1,none⟩ = some (.int .i64 o.n):=by rw [hc2 _ _ (by omega),hc1 _ _ (by simp)];simp [go_sem]
     have q2 : w2.cell? ⟨w.heap.size,2,none⟩ = some (.int .i64 o.g):=by rw [hc2 _ _ (by omega),hc1 _ _ (by simp)];simp [go_sem]
     have q4 : w2.cell? ⟨w.heap.size,4,none⟩ = some (.slice p1 o.keys.length c1):=by rw [hc2 _ _ (by omega),hc1 _ _ (by simp)];simp [go_sem]
     have q5 : w2.cell? ⟨w.heap.size,5,none⟩ = some (.slice p2 nk c2):=by rw [hc2 _ _ (by omega),hc1 _ _ (by simp)];simp [go_sem]
     have hbw2 : Below w.heap.size w w2:=bel
     clear hc1 hf1 hc2 hf2
     by_cases hq4 : LG < ss.size
     · rw [if_pos hq4] at hC
       have HC:=Lh hC
       clear hC
       go_wp2
       go_quiet ((go_at_call 118;exact Calls.quiet_of_same (HLO.out _)))
       go_wp2
       go_ret
       exact ⟨ret_int (by rw [← HC.out];rfl),bel⟩
     rw [if_neg hq4] at hC
     have hz12 : w.heap.size + 1 ≤ w2.heap.size:=by omega
     by_cases hq5 : 8191 < nk
     · rw [if_pos hq5] at hC
       have HC:=Lh hC
       clear hC
       go_wp2
       go_quiet ((go_at_call 118;exact Calls.quiet_of_same (HLO.out _)))
       go_wp2
       go_ret
       exact ⟨ret_int (by rw [← HC.out];rfl),bel⟩
     rw [if_neg hq5] at hC
     cases hq6 : keysB o
     · rw [hq6] at HKE hC
       have HC:=Lh hC
       clear hC hq6
       go_wp2
       go_quiet ((go_at_call 118;exact Calls.quiet_of_same (HLO.out _)))
       go_wp2_with fail
       refine (HKE.out _ bel).mono ?_
       rintro e w3 ⟨rfl,hb3⟩
       go_wp2
       go_ret
       exact ⟨ret_int (by rw [← HC.out];rfl),bel⟩
     rw [hq6] at HKE hC
     have HC:=Lh hC
     clear hC hq6
     go_wp2
     go_quiet ((go_at_call 118;exact Calls.quiet_of_same (HLO.out _)))
     go_wp2_with fail
     refine (HKE.out _ bel).mono ?_
     rintro e w3 ⟨rfl,hb3⟩
     obtain ⟨hc3,hf3⟩:=bcell hb3
     have hz3:=hb3.size
     have r5 : w3.cell? ⟨w.heap.size,5,none⟩ = some (.slice p2 nk c2):=(hc3 _ _ (by simp;omega)).trans (by simpa using q5)
     clear hc3 hf3
     have hbw3 : Below w.heap.size w w3:=bel
     have hq8 : decide (8191 < (nk : Int)) = false:=by simp;omega
     go_wp2
     clear r5
     go_loopw [42] (fun i wr => ∃ k : Nat,k ≤ nk ∧ i = .int .i64 k ∧ Below w.heap.size w wr ∧ Hid (∀ x ∈ o.kids.take k,checkB n x = 0)) (fun i _ => nk - (intOf i).toNat)
     case atStart => exact ⟨0,Nat.zero_le _,rfl,bel,Lh (by simp)⟩
     case round =>
       obtain ⟨k,hk,rfl,hb,HA⟩:=hrel
       by_cases hlt : k < nk
       · have hRw : RowAt S d wr (.slice p2 nk c2) o.kids := by
           have:=HRW.out.1.kept (fun b h => hb.block b (HRW.out.2.2 b h));exact this
         obtain ⟨b,off,rfl⟩ : ∃ b off,p2 = some ⟨b,off,none⟩:=by
           rcases hRw with ⟨e,_⟩ | ⟨b,off,c,e,_⟩
           · have:=HNK.out.1;rw [e] at this;simp at this;omega
           · cases e;exact ⟨_,_,rfl⟩
         obtain ⟨x,p3,n3,e3,p4,n4,e4,hx,hxm,s1,O1,f0,f1,f2,f3,f4,f5⟩:=row_kid hRw HNK.out.1 k hlt
         have hS2 : ∀ b,S b → b < wr.heap.size:=fun b h => Nat.lt_of_lt_of_le (HRW.out.2.2 b h) hb.size
         have HI:=Lh (fun (W : World) (hW : Below wr.heap.size wr W) => HDN.out ▸ IH d W _ x (O1.kept (fun b h => hW.block b (hS2 b h)) d) (HRW.out.2.1 x hxm) (fun b h => Nat.lt_of_lt_of_le (hS2 b h) hW.size))
         have htk : o.kids.take (k + 1) = o.kids.take k ++ [x]:=by
           have hk' : k < o.kids.length:=by rw [HNK.out.1];exact hlt
           rw [List.take_succ_eq_append_getElem hk',← hx];simp [List.getD,hk']
         have hdr : o.kids = o.kids.take k ++ x :: o.kids.drop (k + 1):=by
           have hk' : k < o.kids.length:=by rw [HNK.out.1];exact hlt
           conv => lhs;rw [← List.take_append_drop k o.kids]
           rw [List.drop_eq_getElem_cons hk',← hx];simp [List.getD,hk']
         have HT:=Lh (And.intro htk hdr)
         unfold objCells at HI
         obtain ⟨y,hy⟩ : ∃ y,checkB n x = y:=⟨_,rfl⟩
         rw [hy] at HI
         have HY:=Lh hy
         have L1:=hS2 b s1
         have hszr:=hb.size
         clear hRw hx hxm O1 hS2 htk hdr hy
         cases hy0 : (y != 0)
         · have HY0:=Lh hy0
           go_wp2_with fail
           refine (HI.out _ bel).mono ?_
           rintro e w4 ⟨rfl,hb4⟩
           go_wp2
           go_roundw
           case rel => exact ⟨k + 1,by omega,by go_num,bel,Lh (fun z hz => by
             rw [HT.out.1,List.mem_append] at hz
             rcases hz with hz | hz
             · exact HA.out z hz
             · simp only [List.mem_singleton] at hz;subst hz;rw [HY.out];simpa using HY0.out)⟩
           case measure => simp [intOf];omega
         · have HY0:=Lh hy0
           have HR1:=Lh (show firstBad (o.kids.map (checkB n)) = y by
             rw [HT.out.2,List.map_append,List.map_cons,HY.out]
             exact firstBad_snoc (fun z hz => by obtain ⟨u,hu,rfl⟩:=List.mem_map.1 hz;exact HA.out u hu) (by simpa using HY0.out) _)
           go_wp2_with fail
           refine (HI.out _ bel).mono ?_
           rintro e w4 ⟨rfl,hb4⟩
           go_wp2
           go_ret
           exact ⟨ret_int (by rw [← HC.out,← HR1.out];rfl),bel⟩
       · have HR1 := Lib.hid (show firstBad (o.kids.map (checkB n)) = 0 by
           have hkn : k = nk:=by omega
           refine firstBad_zero fun z hz => ?_
           obtain ⟨u,hu,rfl⟩:=List.mem_map.1 hz
           refine HA.out u ?_
           rw [List.take_of_length_le (by rw [HNK.out.1];omega)];exact hu)
         go_wp2
         go_ret
         exact ⟨ret_int (by rw [← HC.out,← HR1.out];rfl),bel⟩
   · have e9 : (K == 9) = false:=by simpa using hq9
     clear hq1 hq2 hq9
     go_enter Tryz.func73,Tryz.ntmps73
     go_wp2_with fail
     refine (HU.out _).mono ?_
     rintro e w1 ⟨rfl,hb1⟩
     obtain ⟨hc1,hf1⟩:=bcell hb1
     have hz1:=hb1.size
     simp at hz1
     cases hq3 : fitsB o
     · rw [hq3] at hC HFI
       have HC:=Lh hC
       clear hC hq3
       go_wp2_with fail
       refine (HFI.out _).mono ?_
       rintro e w2 ⟨rfl,hb2⟩
       go_wp2
       go_ret
       exact ⟨ret_int (by rw [← HC.out];rfl),bel⟩
     rw [hq3] at hC HFI
     clear hq3
     go_wp2_with fail
     refine (HFI.out _).mono ?_
     rintro e w2 ⟨rfl,hb2⟩
     obtain ⟨hc2,hf2⟩:=bcell hb2
     have hz2:=hb2.size
     have q0 : w2.cell? ⟨w.heap.size,0,none⟩ = some (.int .i64 K):=by rw [hc2 _ _ (by omega),hc1 _ _ (by simp)];simp [go_sem]
     have q3 : w2.cell? ⟨w.heap.size,3,none⟩ = some (.string ss):=by rw [hc2 _ _ (by omega),hc1 _ _ (by simp)];simp [go_sem]
     have q1 : w2.cell? ⟨w.heap.size,1,none⟩ = some (.int .i64 o.n):=by rw [hc2 _ _ (by omega),hc1 _ _ (by simp)];simp [go_sem]
     have q2 : w2.cell? ⟨w.heap.size,2,none⟩ = some (.int .i64 o.g):=by rw [hc2 _ _ (by omega),hc1 _ _ (by simp)];simp [go_sem]
     have q4 : w2.cell? ⟨w.heap.size,4,none⟩ = some (.slice p1 o.keys.length c1):=by rw [hc2 _ _ (by omega),hc1 _ _ (by simp)];simp [go_sem]
     have q5 : w2.cell? ⟨w.heap.size,5,none⟩ = some (.slice p2 nk c2):=by rw [hc2 _ _ (by omega),hc1 _ _ (by simp)];simp [go_sem]
     have hbw2 : Below w.heap.size w w2:=bel
     clear hc1 hf1 hc2 hf2
     by_cases hq4 : LG < ss.size
     · rw [if_pos hq4] at hC
       have HC:=Lh hC
       clear hC
       go_wp2
       go_quiet ((go_at_call 118;exact Calls.quiet_of_same (HLO.out _)))
       go_wp2
       go_ret
       exact ⟨ret_int (by rw [← HC.out];rfl),bel⟩
     rw [if_neg hq4] at hC
     have hz12 : w.heap.size + 1 ≤ w2.heap.size:=by omega
     by_cases hq5 : 8191 < nk
     · rw [if_pos hq5] at hC
       have HC:=Lh hC
       clear hC
       go_wp2
       go_quiet ((go_at_call 118;exact Calls.quiet_of_same (HLO.out _)))
       go_wp2
       go_ret
       exact ⟨ret_int (by rw [← HC.out];rfl),bel⟩
     rw [if_neg hq5] at hC
     cases hq6 : keysB o
     · rw [hq6] at HKE hC
       have HC:=Lh hC
       clear hC hq6
       go_wp2
       go_quiet ((go_at_call 118;exact Calls.quiet_of_same (HLO.out _)))
       go_wp2_with fail
       refine (HKE.out _ bel).mono ?_
       rintro e w3 ⟨rfl,hb3⟩
       go_wp2
       go_ret
       exact ⟨ret_int (by rw [← HC.out];rfl),bel⟩
     rw [hq6] at HKE hC
     have HC:=Lh hC
     clear hC hq6
     go_wp2
     go_quiet ((go_at_call 118;exact Calls.quiet_of_same (HLO.out _)))
     go_wp2_with fail
     refine (HKE.out _ bel).mono ?_
     rintro e w3 ⟨rfl,hb3⟩
     obtain ⟨hc3,hf3⟩:=bcell hb3
     have hz3:=hb3.size
     have r5 : w3.cell? ⟨w.heap.size,5,none⟩ = some (.slice p2 nk c2):=(hc3 _ _ (by simp;omega)).trans (by simpa using q5)
     clear hc3 hf3
     have hbw3 : Below w.heap.size w w3:=bel
     have hq8 : decide (8191 < (nk : Int)) = false:=by simp;omega
     go_wp2
     clear r5
     go_loopw [42] (fun i wr => ∃ k : Nat,k ≤ nk ∧ i = .int .i64 k ∧ Below w.heap.size w wr ∧ Hid (∀ x ∈ o.kids.take k,checkB n x = 0)) (fun i _ => nk - (intOf i).toNat)
     case atStart => exact ⟨0,Nat.zero_le _,rfl,bel,Lh (by simp)⟩
     case round =>
       obtain ⟨k,hk,rfl,hb,HA⟩:=hrel
       by_cases hlt : k < nk
       · have hRw : RowAt S d wr (.slice p2 nk c2) o.kids := by
           have:=HRW.out.1.kept (fun b h => hb.block b (HRW.out.2.2 b h));exact this
         obtain ⟨b,off,rfl⟩ : ∃ b off,p2 = some ⟨b,off,none⟩:=by
           rcases hRw with ⟨e,_⟩ | ⟨b,off,c,e,_⟩
           · have:=HNK.out.1;rw [e] at this;simp at this;omega
           · cases e;exact ⟨_,_,rfl⟩
         obtain ⟨x,p3,n3,e3,p4,n4,e4,hx,hxm,s1,O1,f0,f1,f2,f3,f4,f5⟩:=row_kid hRw HNK.out.1 k hlt
         have hS2 : ∀ b,S b → b < wr.heap.size:=fun b h => Nat.lt_of_lt_of_le (HRW.out.2.2 b h) hb.size
         have HI:=Lh (fun (W : World) (hW : Below wr.heap.size wr W) => HDN.out ▸ IH d W _ x (O1.kept (fun b h => hW.block b (hS2 b h)) d) (HRW.out.2.1 x hxm) (fun b h => Nat.lt_of_lt_of_le (hS2 b h) hW.size))
         have htk : o.kids.take (k + 1) = o.kids.take k ++ [x]:=by
           have hk' : k < o.kids.length:=by rw [HNK.out.1];exact hlt
           rw [List.take_succ_eq_append_getElem hk',← hx];simp [List.getD,hk']
         have hdr : o.kids = o.kids.take k ++ x :: o.kids.drop (k + 1):=by
           have hk' : k < o.kids.length:=by rw [HNK.out.1];exact hlt
           conv => lhs;rw [← List.take_append_drop k o.kids]
           rw [List.drop_eq_getElem_cons hk',← hx];simp [List.getD,hk']
         have HT:=Lh (And.intro htk hdr)
         unfold objCells at HI
         obtain ⟨y,hy⟩ : ∃ y,checkB n x = y:=⟨_,rfl⟩
         rw [hy] at HI
         have HY:=Lh hy
         have L1:=hS2 b s1
         have hszr:=hb.size
         clear hRw hx hxm O1 hS2 htk hdr hy
         cases hy0 : (y != 0)
         · have HY0:=Lh hy0
           go_wp2_with fail
           refine (HI.out _ bel).mono ?_
           rintro e w4 ⟨rfl,hb4⟩
           go_wp2
           go_roundw
           case rel => exact ⟨k + 1,by omega,by go_num,bel,Lh (fun z hz => by
             rw [HT.out.1,List.mem_append] at hz
             rcases hz with hz | hz
             · exact HA.out z hz
             · simp only [List.mem_singleton] at hz;subst hz;rw [HY.out];simpa using HY0.out)⟩
           case measure => simp [intOf];omega
         · have HY0:=Lh hy0
           have HR1:=Lh (show firstBad (o.kids.map (checkB n)) = y by
             rw [HT.out.2,List.map_append,List.map_cons,HY.out]
             exact firstBad_snoc (fun z hz => by obtain ⟨u,hu,rfl⟩:=List.mem_map.1 hz;exact HA.out u hu) (by simpa using HY0.out) _)
           go_wp2_with fail
           refine (HI.out _ bel).mono ?_
           rintro e w4 ⟨rfl,hb4⟩
           go_wp2
           go_ret
           exact ⟨ret_int (by rw [← HC.out,← HR1.out];rfl),bel⟩
       · have HR1 := Lib.hid (show firstBad (o.kids.map (checkB n)) = 0 by
           have hkn : k = nk:=by omega
           refine firstBad_zero fun z hz => ?_
           obtain ⟨u,hu,rfl⟩:=List.mem_map.1 hz
           refine HA.out u ?_
           rw [List.take_of_length_le (by rw [HNK.out.1];omega)];exact hu)
         go_wp2
         go_ret
         exact ⟨ret_int (by rw [← HC.out,← HR1.out];rfl),bel⟩
 · rw [hq2] at hC
   have hq9 : K = 9:=by simp at hq2;exact hq2.1
   have hD3 : 1 < D:=by simp at hq2;exact hq2.2
   subst hq9
   have HC:=Lh hC
   clear hC hq1 hq2
   go_enter Tryz.func73,Tryz.ntmps73
   go_wp2_with fail
   refine (HU.out _).mono ?_
   rintro e w1 ⟨rfl,hb1⟩
   obtain ⟨hc1,hf1⟩:=bcell hb1
   have hz1:=hb1.size
   simp at hz1
   go_wp2
   go_ret
   exact ⟨ret_int (by rw [← HC.out];rfl),bel⟩
theorem Check_in (S : Nat → Prop) (d : Nat) (w : World) (cs : List Value) (o : Ob) (h : ObjAt S d w cs o) (hsm : smallO d o) (hS : ∀ b, S b → b < w.heap.size) (HC : CheckC S 24) :
   Calls Tryz.prog 41 #[.agg cs.toArray] w fun e w' => e = .returned (.int .i64 (checkB 24 o)) ∧ Below w.heap.size w w':=by
 have HH:=Lh (fun (W : World) (hW : Below w.heap.size w W) => HC d W cs o (h.kept (fun b h => hW.block b (hS b h)) d) hsm (fun b h => Nat.lt_of_lt_of_le (hS b h) hW.size))
 obtain ⟨p1,c1,p2,c2,rfl⟩:=h.form2
 unfold objCells at HH
 unfold objCells
 clear h hS HC
 go_enter Tryz.func41,Tryz.ntmps41
 go_wp2_with fail
 refine (HH.out _ bel).mono ?_
 rintro e w1 ⟨rfl,hb1⟩
 go_wp2
 go_ret
 exact ⟨rfl,bel⟩
theorem check_in (S : Nat → Prop) : ∀ n,n ≤ 24 → CheckC S n
 | 0,_ => check_zero S
 | n + 1,h => check_step S n (by omega) (check_in S n (by omega))
end Go.Proofs.YtfgdhcemidlnfaaGreatDoor
