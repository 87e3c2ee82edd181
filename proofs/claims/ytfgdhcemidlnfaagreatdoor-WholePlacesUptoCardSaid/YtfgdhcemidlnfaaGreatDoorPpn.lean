/- Parts of the proof: RefL Whole FixB LexNext RefM RefN RkA RkB RkD RkG. -/
import Derived.Test.YtfgdhcemidlnfaaGreatDoorPpm
import Derived.Lib.AppendStr
import Derived.Lib.IndexAny
import Derived.Recover
import Derived.Defers
import Derived.Deep.RegionHeld3
import Derived.Deep.DeepCutAuto
import Derived.Test.YtfgdhcemidlnfaaGreatDoorPpb
import Derived.Test.YtfgdhcemidlnfaaGreatDoorPpf
import Derived.BigQuiet
import Derived.Test.YtfgdhcemidlnfaaGreatDoorPpd
import Derived.Test.YtfgdhcemidlnfaaGreatDoorPpc
import Derived.Test.YtfgdhcemidlnfaaGreatDoorPpj
set_option linter.all false
set_option maxRecDepth 100000
set_option maxHeartbeats 8000000
namespace Go.Proofs.YtfgdhcemidlnfaaGreatDoor
open Go.RowKit Fo
theorem rappendS {ops : Array Oper} {rest : List Oper} {o : Oper} {a : Act} {Q : Exit → Act → World → Prop} {w : World} (hgd : o.guard = none) (s x : Operand)
   (ho : o.op = .call { callee:=.builtin .append,args:=#[s,x],argTypes:=#[98,9] })
   (B : Nat) (v : Value) (l : L) (r : ByteArray) (hown : ownB w B v l) (hs : a.eval s = v)
   (hx : a.eval x = .string r) (hlen : l.length + r.size ≤ 140737488355327) (hB : B ≤ w.heap.size)
   (h : ∀ v' w',ownB w' B v' (l ++ r.data.toList) → Below B w w' → wpList Tryz.prog ops Q rest (a.put o.dst v') w') :
   wpList Tryz.prog ops Q (o :: rest) a w:=by
 obtain ⟨i0,hi,hz0,hz1,hz2⟩:=info_parts Tryz.infoU8
 refine Go.Lib.wpList_append_own_string w hgd s x 98 9 ho B 5 i0 Tryz.underlying98 Tryz.underlying9 hi hz0 hz1 hz2 v l.length _ hs hown r hx (by unfold maxLen;omega) (by omega) hB ?_
 intro v' w' hown' hg _
 refine h v' w' ?_ ((Below.refl B _).grown hg hB (own_base hown))
 unfold ownB
 have e1 : (l ++ r.data.toList).length = l.length + r.size:=by rw [List.length_append];rfl
 rw [e1,List.map_append]
 exact hown'
theorem rtext (s : ByteArray) (a : Nat) (ha : a ≤ s.size) (hs : s.size ≤ 140737488355327) (w : World) :
   Calls Tryz.prog 104 #[.string s,.int .i64 a] w fun e w' => e = .returned (HexOut a (textS [] 0 1 0 (s.data.toList.drop a))) ∧ Below w.heap.size w w':=by
 obtain ⟨T,hT⟩ : ∃ T,textS [] 0 1 0 (s.data.toList.drop a) = T:=⟨_,rfl⟩
 rw [hT]
 have HT:=Lh (show textS [] (a - a) 1 0 (s.data.toList.drop a) = T by rw [Nat.sub_self];exact hT)
 clear hT
 go_enter Tryz.func104,Tryz.ntmps104
 go_wp2
 go_loopw [1,7,8] (fun i v op wr => ∃ (k : Nat) (acc : L) (o : Nat),a ≤ k ∧ k ≤ s.size ∧ 1 ≤ o ∧ o ≤ k + 1 ∧ i = .int .i64 k ∧ op = .int .i64 o ∧ ownB wr w.heap.size v acc ∧ acc.length ≤ k ∧ Below w.heap.size w wr ∧ Hid (textS acc (k - a) o 0 (s.data.toList.drop k) = T)) (fun i _ _ _ => s.size - (intOf i).toNat)
 case atStart => exact ⟨a,[],1,by omega,ha,by omega,by omega,rfl,by go_num,ownB_nil _ _,by simp,Below.refl _ _,HT⟩
 case round =>
   obtain ⟨k,acc,o,hk1,hk2,ho1,ho2,rfl,rfl,hown,hacc,hbr,H⟩:=hrel
   have hBr : w.heap.size ≤ wr.heap.size:=hbr.size
   clear HT
   by_cases hlt : k < s.size
   · have hn1 : k - a + 1 = k + 1 - a:=by omega
     have hu:=UInt8.toNat_lt s[k]
     by_cases h92 : s[k] = 92
     · have t1 : ((s[k].toNat : Int) == 92) = true:=eq_yes (n:=92) (by decide) h92
       by_cases hend : k + 1 = s.size
       · have HX:=Lh (H.out.symm.trans (textS_esc0 hend h92))
         have t2 : (s.size : Int) ≤ (k : Int) + 1:=by omega
         clear H h92 hend hn1
         go_wp2
         refine bodyPost_ret (v:=.tuple #[.string ⟨#[]⟩,.int .i64 0,.int .i64 4]) (by simp [results,Tryz.results104,go_sem]) rfl ⟨by rw [HX.out];rfl,bel⟩
       · have hlt1 : k + 1 < s.size:=by omega
         have t2 : ¬ (s.size : Int) ≤ (k : Int) + 1:=by omega
         have hX:=H.out.symm.trans (textS_esc hlt1 h92)
         have hel:=esc_le (s.data.toList.drop (k + 1)) (by rw [drop_get s _ hlt1];simp)
         obtain ⟨⟨x,m⟩,hxm⟩ : ∃ x,esc (s.data.toList.drop (k + 1)) = x:=⟨_,rfl⟩
         have hesc:=fun w => rescape s k hlt1 hs w
         rw [hxm] at hX hel hesc
         simp only [List.length_drop,Array.length_toList] at hX hel hesc
         have hel2 : m ≤ s.size - (k + 1):=hel.2.1
         have hel1:=hel.1
         have hel3:=hel.2.2
         rw [show k - a + 1 + m = k + 1 + m - a by omega] at hX
         have HX:=Lh hX
         have HS:=Lh hesc
         clear H h92 hend hX hxm hesc hel
         go_wp2_with (first | (go_at_call 157;refine (HS.out _).mono ?_;rintro e w2 ⟨rfl,hb2⟩;have hown2:=ownB_below hown hb2;replace hb2:=hbr.trans (hb2.mono hBr)) | (at_builtin;go_must (refine rappendS rfl _ _ rfl w.heap.size _ acc _ hown2 rfl rfl (by simp [ByteArray.size];omega) hb2.size ?_);intro v3 w3 hown3 hb3;replace hb3:=hb2.trans hb3))
         go_roundw
         case rel => exact ⟨k + 1 + m,acc ++ x,o,by omega,by omega,by omega,by omega,by go_num,rfl,by simpa using hown3,by simp;omega,hb3,HX.out.symm⟩
         case measure => simp [intOf];omega
     · have t1 : ((s[k].toNat : Int) == 92) = false:=eq_no (n:=92) (by decide) h92
       by_cases h40 : s[k] = 40
       · have t2 : ((s[k].toNat : Int) == 40) = true:=eq_yes (n:=40) (by decide) h40
         have t3 : ((s[k].toNat : Int) == 41) = false:=eq_no (n:=41) (by decide) (by rw [h40];decide)
         have t5 : ((s[k].toNat : Int) == 13) = false:=eq_no (n:=13) (by decide) (by rw [h40];decide)
         have HX:=Lh (H.out.symm.trans ((textS_open hlt h40).trans (by rw [hn1])))
         clear H h92 h40 hn1
         go_wp2_with (at_builtin;go_must (refine append1 rfl _ _ rfl w.heap.size _ acc _ hown rfl rfl (by omega) hBr (by omega) (by omega) ?_);intro v3 w3 hown3 hb3 hz3;replace hb3:=hbr.trans hb3)
         go_roundw
         case rel => exact ⟨k + 1,acc ++ [s[k]],o + 1,by omega,by omega,by omega,by omega,by go_num,by go_num,by simpa using hown3,by simp;omega,hb3,HX.out.symm⟩
         case measure => simp [intOf];omega
       · have t2 : ((s[k].toNat : Int) == 40) = false:=eq_no (n:=40) (by decide) h40
         by_cases h41 : s[k] = 41
         · have t3 : ((s[k].toNat : Int) == 41) = true:=eq_yes (n:=41) (by decide) h41
           have t5 : ((s[k].toNat : Int) == 13) = false:=eq_no (n:=13) (by decide) (by rw [h41];decide)
           by_cases h1 : o = 1
           · subst h1
             have HX:=Lh (H.out.symm.trans (textS_shut hlt h41))
             obtain ⟨p,cv,rfl⟩:=ownB_slice hown
             have hcv:=convB hown
             clear H h92 h40 h41 hn1
             by_cases h32 : 32767 < acc.length
             · go_wp2
               refine bodyPost_ret (v:=.tuple #[.string ⟨#[]⟩,.int .i64 0,.int .i64 5]) (by simp [results,Tryz.results104,go_sem]) rfl ⟨?_,bel⟩
               rw [HX.out];simp only [HexOut];rw [if_pos h32]
             · go_wp2
               refine bodyPost_ret (v:=.tuple #[.string ⟨acc.toArray⟩,.int .i64 (k + 1),.int .i64 0]) (by simp [results,Tryz.results104,go_sem,show IntKind.i64.wrap ((k : Int) + 1) = (k : Int) + 1 from IntWalk.i64_in _ ⟨by omega,by omega⟩]) rfl ⟨?_,bel⟩
               rw [HX.out];simp only [HexOut];rw [if_neg h32,show a + (k - a + 1) = k + 1 by omega];rfl
           · have t4 : ((o : Int) - 1 == 0) = false:=by simp;omega
             have HX:=Lh (H.out.symm.trans ((textS_close hlt h41 h1).trans (by rw [hn1])))
             clear H h92 h40 h41 hn1
             go_wp2_with (at_builtin;go_must (refine append1 rfl _ _ rfl w.heap.size _ acc _ hown rfl rfl (by omega) hBr (by omega) (by omega) ?_);intro v3 w3 hown3 hb3 hz3;replace hb3:=hbr.trans hb3)
             go_roundw
             case rel => exact ⟨k + 1,acc ++ [s[k]],o - 1,by omega,by omega,by omega,by omega,by go_num,by congr 1;omega,by simpa using hown3,by simp;omega,hb3,HX.out.symm⟩
             case measure => simp [intOf];omega
         · have t3 : ((s[k].toNat : Int) == 41) = false:=eq_no (n:=41) (by decide) h41
           by_cases h13 : s[k] = 13
           · have t5 : ((s[k].toNat : Int) == 13) = true:=eq_yes (n:=13) (by decide) h13
             have hX:=H.out.symm.trans (textS_eol hlt (by rw [h13];decide))
             have hl : lineN (s.data.toList.drop k) = if (s.data.toList.drop (k + 1)).head? = some 10 then 2 else 1:=by
               rw [drop_get s k hlt,lineN_cons,h13,if_neg (by decide),if_pos rfl]
             rw [hl] at hX
             by_cases hk3 : k + 1 < s.size
             · have q3 : (k : Int) + 1 < s.size:=by omega
               rw [drop_get s (k + 1) hk3] at hX
               by_cases h10 : s[k + 1] = 10
               · have t6 : ((s[k + 1].toNat : Int) == 10) = true:=eq_yes (n:=10) (by decide) h10
                 rw [if_pos (by rw [h10];rfl),show k - a + 2 = k + 2 - a by omega] at hX
                 have HX:=Lh hX
                 clear H h92 h40 h41 h13 h10 hl hX hn1
                 go_wp2_with (at_builtin;go_must (refine append1 rfl _ _ rfl w.heap.size _ acc _ hown rfl rfl (by omega) hBr (by omega) (by omega) ?_);intro v3 w3 hown3 hb3 hz3;replace hb3:=hbr.trans hb3)
                 go_roundw
                 case rel => exact ⟨k + 2,acc ++ [10],o,by omega,by omega,by omega,by omega,by go_num,rfl,by simpa using hown3,by simp;omega,hb3,HX.out.symm⟩
                 case measure => simp [intOf];omega
               · have t6 : ((s[k + 1].toNat : Int) == 10) = false:=eq_no (n:=10) (by decide) h10
                 rw [if_neg (by simpa using h10),hn1] at hX
                 have HX:=Lh hX
                 clear H h92 h40 h41 h13 h10 hl hX hn1
                 go_wp2_with (at_builtin;go_must (refine append1 rfl _ _ rfl w.heap.size _ acc _ hown rfl rfl (by omega) hBr (by omega) (by omega) ?_);intro v3 w3 hown3 hb3 hz3;replace hb3:=hbr.trans hb3)
                 go_roundw
                 case rel => exact ⟨k + 1,acc ++ [10],o,by omega,by omega,by omega,by omega,by go_num,rfl,by simpa using hown3,by simp;omega,hb3,HX.out.symm⟩
                 case measure => simp [intOf];omega
             · have q3 : ¬ (k : Int) + 1 < s.size:=by omega
               rw [if_neg (by rw [List.drop_eq_nil_of_le (by simp;omega)];simp),hn1] at hX
               have HX:=Lh hX
               clear H h92 h40 h41 h13 hl hX hn1
               go_wp2_with (at_builtin;go_must (refine append1 rfl _ _ rfl w.heap.size _ acc _ hown rfl rfl (by omega) hBr (by omega) (by omega) ?_);intro v3 w3 hown3 hb3 hz3;replace hb3:=hbr.trans hb3)
               go_roundw
               case rel => exact ⟨k + 1,acc ++ [10],o,by omega,by omega,by omega,by omega,by go_num,rfl,by simpa using hown3,by simp;omega,hb3,HX.out.symm⟩
               case measure => simp [intOf];omega
           · have t5 : ((s[k].toNat : Int) == 13) = false:=eq_no (n:=13) (by decide) h13
             have HX:=Lh (show T = textS (acc ++ [s[k]]) (k + 1 - a) o 0 (s.data.toList.drop (k + 1)) by
               have hH:=H.out.symm
               by_cases h10 : s[k] = 10
               · rw [textS_eol hlt (by rw [h10];decide)] at hH
                 have hl : lineN (s.data.toList.drop k) = 1:=by rw [drop_get s k hlt,lineN_cons,if_pos h10]
                 rw [hl,hn1] at hH
                 rw [h10];exact hH
               · rw [textS_plain hlt (by simp [eol,h13,h10]) h92 h40 h41,hn1] at hH
                 exact hH)
             clear H h92 h40 h41 h13 hn1
             go_wp2_with (at_builtin;go_must (refine append1 rfl _ _ rfl w.heap.size _ acc _ hown rfl rfl (by omega) hBr (by omega) (by omega) ?_);intro v3 w3 hown3 hb3 hz3;replace hb3:=hbr.trans hb3)
             go_roundw
             case rel => exact ⟨k + 1,acc ++ [s[k]],o,by omega,by omega,by omega,by omega,by go_num,rfl,by simpa using hown3,by simp;omega,hb3,HX.out.symm⟩
             case measure => simp [intOf];omega
   · have HX:=Lh (show T = .bad 4 by have:=H.out;rw [List.drop_eq_nil_of_le (by simp;omega),textS_end] at this;exact this.symm)
     clear H
     go_wp2
     refine bodyPost_ret (v:=.tuple #[.string ⟨#[]⟩,.int .i64 0,.int .i64 4]) (by simp [results,Tryz.results104,go_sem]) rfl ⟨by rw [HX.out];rfl,bel⟩
theorem val_snoc (l : L) (c : UInt8) : val (l ++ [c]) = 10 * val l + (c.toNat - 48):=by simp [val,List.foldl_append]
def rest (b : L) : L:=Lib.trimRightS ((b ++ [48,48,48,48,48]).drop 4) [48]
theorem tok_bad {f : FuncId} {args : Array Value} {w : World} {a : Nat} {X : Res Tok} {k : Int} (h : X = .bad k)
   (hc : Calls Tryz.prog f args w fun e w' => e = .returned (tokR a X) ∧ Below w.heap.size w w') :
   Calls Tryz.prog f args w fun e w' => e = .returned (.tuple #[.agg #[.int .i64 0,.int .i64 0,.int .i64 0,.int .i64 0,.string ⟨#[]⟩],.int .i64 k]) ∧ Below w.heap.size w w':=by
 rw [h] at hc;exact hc
theorem tok_good {f : FuncId} {args : Array Value} {w : World} {a : Nat} {X : Res Tok} {t : Tok} (h : X = .good t)
   (hc : Calls Tryz.prog f args w fun e w' => e = .returned (tokR a X) ∧ Below w.heap.size w w') :
   Calls Tryz.prog f args w fun e w' => e = .returned (.tuple #[.agg #[.int .i64 t.kind,.int .i64 a,.int .i64 (a + t.len : Nat),.int .i64 t.n,.string ⟨t.s.toArray⟩],.int .i64 0]) ∧ Below w.heap.size w w':=by
 rw [h] at hc;exact hc
theorem ext2 (s : ByteArray) (p : Nat) (hp : p + 1 < s.size) : s.extract p (p + 2) = ⟨#[s[p],s[p + 1]]⟩:=by
 apply ByteArray.ext_iff.2
 apply Array.toList_inj.1
 rw [Lib.extract_data,drop_get s p (by omega),drop_get s (p + 1) hp]
 simp
theorem dbl_lt {s : ByteArray} {p : Nat} {c : UInt8} (h : (s.data.toList.drop (p + 1)).head? = some c) : ∃ h : p + 1 < s.size,s[p + 1] = c:=by
 have hk : p + 1 < s.size:=by
   apply Classical.byContradiction;intro h2
   rw [List.drop_eq_nil_of_le (by have : s.data.toList.length = s.size:=rfl;omega)] at h;simp at h
 refine ⟨hk,?_⟩
 rw [drop_get s _ hk] at h
 simpa using h
theorem hexT_two (l : L) : hexT l = strOf (pairR (hexG [] 0 l)):=by
 unfold hexT
 have:=(hex_two l [] 0 rfl).1
 simp only [pairs] at this
 rw [this]
theorem hexOut_shape (a : Nat) (R : Res (L × Nat)) : ∃ (x : ByteArray) (y z : Int),HexOut a R = .tuple #[.string x,.int .i64 y,.int .i64 z]:=by
 cases R with
 | bad e => exact ⟨_,_,_,rfl⟩
 | good x => unfold HexOut;dsimp only;split <;> exact ⟨_,_,_,rfl⟩
theorem strOf_out (a : Nat) (R : Res (L × Nat)) (hR : ∀ e, R = .bad e → e ≠ 0) :
   (∃ k,strOf R = .bad k ∧ (k != 0) = true ∧ HexOut (a + 1) R = .tuple #[.string ⟨#[]⟩,.int .i64 0,.int .i64 k]) ∨
   (∃ (x : L) (n : Nat),strOf R = .good ⟨3,n + 1,0,x⟩ ∧ HexOut (a + 1) R = .tuple #[.string ⟨x.toArray⟩,.int .i64 (a + 1 + n : Nat),.int .i64 0]):=by
 cases R with
 | bad e => exact .inl ⟨e,rfl,by simpa using hR e rfl,rfl⟩
 | good x =>
   by_cases h : 32767 < x.1.length
   · exact .inl ⟨5,by simp [strOf,told,h],rfl,by simp [HexOut,h]⟩
   · exact .inr ⟨x.1,x.2,by simp [strOf,told,h],by simp [HexOut,h]⟩
theorem nameT_out (l : L) : (∃ k, nameT l = .bad k ∧ (k != 0) = true ∧ NameOut (nameS [] 0 (l.take (regN l))) = .tuple #[.string ⟨#[]⟩, .int .i64 k]) ∨
   (∃ x : L,nameT l = .good ⟨4,regN l + 1,0,x⟩ ∧ NameOut (nameS [] 0 (l.take (regN l))) = .tuple #[.string ⟨x.toArray⟩,.int .i64 0]):=by
 unfold nameT
 cases h : nameS [] 0 (l.take (regN l)) with
 | bad e => have:=nameS_bad' h;subst this;exact .inl ⟨3,rfl,rfl,rfl⟩
 | good x =>
   by_cases h2 : 127 < x.length
   · exact .inl ⟨5,by simp [nameOf,told,h2],rfl,by simp [NameOut,h2]⟩
   · exact .inr ⟨x,by simp [nameOf,told,h2],by simp [NameOut,h2]⟩
theorem ext_run (s : ByteArray) (a N : Nat) : (s.extract a (a + N)).data.toList = (s.data.toList.drop a).take N:=by
 rw [Lib.extract_data,show a + N - a = N by omega]
theorem pairR_codes {l : L} {e : Int} (h : pairR (hexG [] 0 l) = .bad e) : e ≠ 0:=by
 have h2:=(hex_two l [] 0 rfl).1
 simp only [pairs] at h2
 rw [← h2] at h
 have:=hexS_bad' h;omega
theorem rtoken (s : ByteArray) (a : Nat) (ha : a < s.size) (hs : s.size ≤ 140737488355327) (w : World) :
   Calls Tryz.prog 70 #[.string s,.int .i64 a] w fun e w' => e = .returned (tokR a (tokT (s.data.toList.drop a))) ∧ Below w.heap.size w w':=by
 have hmx : s.size ≤ maxLen:=by unfold maxLen;omega
 obtain ⟨X,hX⟩ : ∃ X,tokT (s.data.toList.drop a) = X:=⟨_,rfl⟩
 rw [hX]
 have hX0:=hX
 rw [drop_get s a ha] at hX
 unfold tokT at hX
 obtain ⟨b,hd⟩ : ∃ b,((s.data.toList.drop (a + 1)).head? == some s[a]) = b:=⟨_,rfl⟩
 have HD:=Lh hd
 by_cases h60 : s[a] = 60
 · have t60 : ((s[a].toNat : Int) == 60) = true:=eq_yes (n:=60) (by decide) h60
   cases b with
   | true =>
     have hh : (s.data.toList.drop (a + 1)).head? = some 60:=by rw [← h60];simpa using hd
     obtain ⟨hl2,hc2⟩:=dbl_lt hh
     have hl3 : (a : Int) + 2 ≤ s.size:=by omega
     have HX:=Lh (show X = .good ⟨6,2,0,[60,60]⟩ by rw [← hX,h60];dsimp only;rw [if_neg (by decide),if_pos (by decide),if_pos hh])
     have HE:=Lh (show s.extract a (a + 2) = ⟨#[60,60]⟩ by rw [ext2 s a hl2,h60,hc2])
     clear hX hX0 hd h60 hh hc2 hmx
     go_enter Tryz.func70,Tryz.ntmps70
     go_upto_region 2 with fail
     go_cut [7] (fun d wx => d = .bool true ∧ wx = w.alloc (.cells #[.int .i64 0,.int .i64 0,.int .i64 0,.int .i64 0,.string ⟨#[]⟩] 70))
     case first =>
       have HDD:=HD.out
       by_cases q0 : a + 1 < s.size
       · have q1 : (a : Int) + 1 < s.size:=by omega
         rw [drop_get s (a + 1) q0] at HDD
         have q2 : ((s[a + 1].toNat : Int) == (s[a].toNat : Int)) = true:=by rw [← HDD];simp only [List.head?_cons];rw [Bool.eq_iff_iff];simp [← UInt8.toNat_inj];omega
         clear HDD
         go_wp2_with fail
         all_goals go_meet
         all_goals simp [q2]
       · have q1 : ¬ (a : Int) + 1 < s.size:=by omega
         rw [List.drop_eq_nil_of_le (by simp;omega)] at HDD
         have q2 : true = false:=HDD.symm.trans (by rfl)
         clear HDD
         first
         | exact absurd q2 (by decide)
         | (go_wp2_with fail
            all_goals go_meet
            all_goals simp [q2])
     case rest =>
       obtain ⟨rfl,rfl⟩:=hcut
       go_wp2
       refine bodyPost_ret (v:=.tuple #[.agg #[.int .i64 6,.int .i64 a,.int .i64 (a + 2),.int .i64 0,.string (s.extract a (a + 2))],.int .i64 0]) (by simp [results,Tryz.results70,go_sem]) rfl ⟨by rw [HX.out,HE.out];simp [tokR],bel⟩
   | false =>
     have hh : ¬ (s.data.toList.drop (a + 1)).head? = some 60:=by rw [← h60];simpa using hd
     have hXX : hexT (s.data.toList.drop (a + 1)) = X:=by rw [← hX,h60];dsimp only;rw [if_neg (by decide),if_pos (by decide),if_neg hh]
     rw [hexT_two] at hXX
     have hso:=strOf_out a (pairR (hexG [] 0 (s.data.toList.drop (a + 1)))) (fun e he => pairR_codes he)
     rw [hXX] at hso
     have t62 : ((s[a].toNat : Int) == 62) = false:=eq_no (n:=62) (by decide) (by rw [h60];decide)
     have t91 : ((s[a].toNat : Int) == 91) = false:=eq_no (n:=91) (by decide) (by rw [h60];decide)
     have t93 : ((s[a].toNat : Int) == 93) = false:=eq_no (n:=93) (by decide) (by rw [h60];decide)
     have t123 : ((s[a].toNat : Int) == 123) = false:=eq_no (n:=123) (by decide) (by rw [h60];decide)
     have t125 : ((s[a].toNat : Int) == 125) = false:=eq_no (n:=125) (by decide) (by rw [h60];decide)
     have t41 : ((s[a].toNat : Int) == 41) = false:=eq_no (n:=41) (by decide) (by rw [h60];decide)
     have t47 : ((s[a].toNat : Int) == 47) = false:=eq_no (n:=47) (by decide) (by rw [h60];decide)
     have t40 : ((s[a].toNat : Int) == 40) = false:=eq_no (n:=40) (by decide) (by rw [h60];decide)
     have htx:=fun W => rtext s (a + 1) (by omega) hs W
     obtain ⟨x0,y0,z0,hsh⟩:=hexOut_shape (a + 1) (textS [] 0 1 0 (s.data.toList.drop (a + 1)))
     rw [hsh] at htx
     have HTX:=Lh htx
     have hhx:=fun W => rhex s (a + 1) (by omega) hs W
     clear hX hX0 hd h60 hh hmx htx hsh hXX
     rcases hso with ⟨k,hx1,hk0,hx2⟩ | ⟨x,n,hx1,hx2⟩
     · rw [hx2] at hhx
       have HHX:=Lh hhx
       have HX:=Lh hx1
       clear hhx hx1 hx2
       go_enter Tryz.func70,Tryz.ntmps70
       go_upto_region 2 with fail
       go_cut [7] (fun d wx => d = .bool false ∧ wx = w.alloc (.cells #[.int .i64 0,.int .i64 0,.int .i64 0,.int .i64 0,.string ⟨#[]⟩] 70))
       case first =>
         have HDD:=HD.out
         by_cases q0 : a + 1 < s.size
         · have q1 : (a : Int) + 1 < s.size:=by omega
           rw [drop_get s (a + 1) q0] at HDD
           have q2 : ((s[a + 1].toNat : Int) == (s[a].toNat : Int)) = false:=by rw [← HDD];simp only [List.head?_cons];rw [Bool.eq_iff_iff];simp [← UInt8.toNat_inj];omega
           clear HDD
           go_wp2_with fail
           all_goals go_meet
           all_goals simp [q2]
         · have q1 : ¬ (a : Int) + 1 < s.size:=by omega
           rw [List.drop_eq_nil_of_le (by simp;omega)] at HDD
           have q2 : false = false:=HDD.symm.trans (by rfl)
           clear HDD
           first
           | exact absurd q2 (by decide)
           | (go_wp2_with fail
              all_goals go_meet
              all_goals simp [q2])
       case rest =>
         obtain ⟨rfl,rfl⟩:=hcut
         go_wp2_with fail
         refine (HTX.out _).mono ?_
         rintro e w1 ⟨rfl,hb1⟩
         go_wp2_with fail
         refine (HHX.out _).mono ?_
         rintro e w2 ⟨rfl,hb2⟩
         have hb3:=hb1.trans (hb2.mono hb1.size)
         obtain ⟨d0,d1,d2,d3,d4,df⟩:=five_at ((hb3.block _ (by simp)).trans (new_at w _))
         have dz : w.heap.size < w2.heap.size:=by have:=hb3.size;simp at this;omega
         clear hb1 hb2
         go_wp2
         refine bodyPost_ret (v:=.tuple #[.agg #[.int .i64 0,.int .i64 0,.int .i64 0,.int .i64 0,.string ⟨#[]⟩],.int .i64 k]) (by simp [results,Tryz.results70,go_sem,d0,d1,d2,d3,d4,df,dz]) rfl ⟨by rw [HX.out];rfl,bel⟩
     · rw [hx2] at hhx
       have HHX:=Lh hhx
       have HX:=Lh hx1
       clear hhx hx1 hx2
       go_enter Tryz.func70,Tryz.ntmps70
       go_upto_region 2 with fail
       go_cut [7] (fun d wx => d = .bool false ∧ wx = w.alloc (.cells #[.int .i64 0,.int .i64 0,.int .i64 0,.int .i64 0,.string ⟨#[]⟩] 70))
       case first =>
         have HDD:=HD.out
         by_cases q0 : a + 1 < s.size
         · have q1 : (a : Int) + 1 < s.size:=by omega
           rw [drop_get s (a + 1) q0] at HDD
           have q2 : ((s[a + 1].toNat : Int) == (s[a].toNat : Int)) = false:=by rw [← HDD];simp only [List.head?_cons];rw [Bool.eq_iff_iff];simp [← UInt8.toNat_inj];omega
           clear HDD
           go_wp2_with fail
           all_goals go_meet
           all_goals simp [q2]
         · have q1 : ¬ (a : Int) + 1 < s.size:=by omega
           rw [List.drop_eq_nil_of_le (by simp;omega)] at HDD
           have q2 : false = false:=HDD.symm.trans (by rfl)
           clear HDD
           first
           | exact absurd q2 (by decide)
           | (go_wp2_with fail
              all_goals go_meet
              all_goals simp [q2])
       case rest =>
         obtain ⟨rfl,rfl⟩:=hcut
         go_wp2_with fail
         refine (HTX.out _).mono ?_
         rintro e w1 ⟨rfl,hb1⟩
         go_wp2_with fail
         refine (HHX.out _).mono ?_
         rintro e w2 ⟨rfl,hb2⟩
         have hb3:=hb1.trans (hb2.mono hb1.size)
         obtain ⟨d0,d1,d2,d3,d4,df⟩:=five_at ((hb3.block _ (by simp)).trans (new_at w _))
         have dz : w.heap.size < w2.heap.size:=by have:=hb3.size;simp at this;omega
         clear hb1 hb2
         go_wp2
         refine bodyPost_ret (v:=.tuple #[.agg #[.int .i64 3,.int .i64 a,.int .i64 (a + 1 + n),.int .i64 0,.string ⟨x.toArray⟩],.int .i64 0]) (by simp [results,Tryz.results70,go_sem,d0,d1,d2,d3,d4,df,dz]) rfl ⟨by rw [HX.out];simp [tokR];omega,bel⟩
 · have t60 : ((s[a].toNat : Int) == 60) = false:=eq_no (n:=60) (by decide) h60
   by_cases h62 : s[a] = 62
   · have t62 : ((s[a].toNat : Int) == 62) = true:=eq_yes (n:=62) (by decide) h62
     cases b with
     | true =>
       have hh : (s.data.toList.drop (a + 1)).head? = some 62:=by rw [← h62];simpa using hd
       obtain ⟨hl2,hc2⟩:=dbl_lt hh
       have hl3 : (a : Int) + 2 ≤ s.size:=by omega
       have HX:=Lh (show X = .good ⟨6,2,0,[62,62]⟩ by rw [← hX,h62];dsimp only;rw [if_neg (by decide),if_neg (by decide),if_pos (by decide),if_pos hh])
       have HE:=Lh (show s.extract a (a + 2) = ⟨#[62,62]⟩ by rw [ext2 s a hl2,h62,hc2])
       clear hX hX0 hd h60 h62 hh hc2 hmx
       go_enter Tryz.func70,Tryz.ntmps70
       go_upto_region 2 with fail
       go_cut [7] (fun d wx => d = .bool true ∧ wx = w.alloc (.cells #[.int .i64 0,.int .i64 0,.int .i64 0,.int .i64 0,.string ⟨#[]⟩] 70))
       case first =>
         have HDD:=HD.out
         by_cases q0 : a + 1 < s.size
         · have q1 : (a : Int) + 1 < s.size:=by omega
           rw [drop_get s (a + 1) q0] at HDD
           have q2 : ((s[a + 1].toNat : Int) == (s[a].toNat : Int)) = true:=by rw [← HDD];simp only [List.head?_cons];rw [Bool.eq_iff_iff];simp [← UInt8.toNat_inj];omega
           clear HDD
           go_wp2_with fail
           all_goals go_meet
           all_goals simp [q2]
         · have q1 : ¬ (a : Int) + 1 < s.size:=by omega
           rw [List.drop_eq_nil_of_le (by simp;omega)] at HDD
           have q2 : true = false:=HDD.symm.trans (by rfl)
           clear HDD
           first
           | exact absurd q2 (by decide)
           | (go_wp2_with fail
              all_goals go_meet
              all_goals simp [q2])
       case rest =>
         obtain ⟨rfl,rfl⟩:=hcut
         go_wp2
         refine bodyPost_ret (v:=.tuple #[.agg #[.int .i64 6,.int .i64 a,.int .i64 (a + 2),.int .i64 0,.string (s.extract a (a + 2))],.int .i64 0]) (by simp [results,Tryz.results70,go_sem]) rfl ⟨by rw [HX.out,HE.out];simp [tokR],bel⟩
     | false =>
       have hh : ¬ (s.data.toList.drop (a + 1)).head? = some 62:=by rw [← h62];simpa using hd
       have HX:=Lh (show X = .bad 3 by rw [← hX,h62];dsimp only;rw [if_neg (by decide),if_neg (by decide),if_pos (by decide),if_neg hh])
       have t91 : ((s[a].toNat : Int) == 91) = false:=eq_no (n:=91) (by decide) (by rw [h62];decide)
       have t93 : ((s[a].toNat : Int) == 93) = false:=eq_no (n:=93) (by decide) (by rw [h62];decide)
       have t123 : ((s[a].toNat : Int) == 123) = false:=eq_no (n:=123) (by decide) (by rw [h62];decide)
       have t125 : ((s[a].toNat : Int) == 125) = false:=eq_no (n:=125) (by decide) (by rw [h62];decide)
       clear hX hX0 hd h60 h62 hh hmx
       go_enter Tryz.func70,Tryz.ntmps70
       go_upto_region 2 with fail
       go_cut [7] (fun d wx => d = .bool false ∧ wx = w.alloc (.cells #[.int .i64 0,.int .i64 0,.int .i64 0,.int .i64 0,.string ⟨#[]⟩] 70))
       case first =>
         have HDD:=HD.out
         by_cases q0 : a + 1 < s.size
         · have q1 : (a : Int) + 1 < s.size:=by omega
           rw [drop_get s (a + 1) q0] at HDD
           have q2 : ((s[a + 1].toNat : Int) == (s[a].toNat : Int)) = false:=by rw [← HDD];simp only [List.head?_cons];rw [Bool.eq_iff_iff];simp [← UInt8.toNat_inj];omega
           clear HDD
           go_wp2_with fail
           all_goals go_meet
           all_goals simp [q2]
         · have q1 : ¬ (a : Int) + 1 < s.size:=by omega
           rw [List.drop_eq_nil_of_le (by simp;omega)] at HDD
           have q2 : false = false:=HDD.symm.trans (by rfl)
           clear HDD
           first
           | exact absurd q2 (by decide)
           | (go_wp2_with fail
              all_goals go_meet
              all_goals simp [q2])
       case rest =>
         obtain ⟨rfl,rfl⟩:=hcut
         go_wp2
         refine bodyPost_ret (v:=.tuple #[.agg #[.int .i64 0,.int .i64 0,.int .i64 0,.int .i64 0,.string ⟨#[]⟩],.int .i64 3]) (by simp [results,Tryz.results70,go_sem]) rfl ⟨by rw [HX.out];rfl,bel⟩
   · have t62 : ((s[a].toNat : Int) == 62) = false:=eq_no (n:=62) (by decide) h62
     by_cases h91 : s[a] = 91
     · have t91 : ((s[a].toNat : Int) == 91) = true:=eq_yes (n:=91) (by decide) h91
       have HX:=Lh (show X = .good ⟨6,1,0,[s[a]]⟩ by rw [← hX,h91];rfl)
       have HE:=Lh (ext1 s a ha)
       clear hX hX0 hd h60 h62 h91 hmx
       go_enter Tryz.func70,Tryz.ntmps70
       go_upto_region 2 with fail
       go_cut [7] (fun d wx => d = .bool b ∧ wx = w.alloc (.cells #[.int .i64 0,.int .i64 0,.int .i64 0,.int .i64 0,.string ⟨#[]⟩] 70))
       case first =>
         have HDD:=HD.out
         by_cases q0 : a + 1 < s.size
         · have q1 : (a : Int) + 1 < s.size:=by omega
           rw [drop_get s (a + 1) q0] at HDD
           have q2 : ((s[a + 1].toNat : Int) == (s[a].toNat : Int)) = b:=by rw [← HDD];simp only [List.head?_cons];rw [Bool.eq_iff_iff];simp [← UInt8.toNat_inj];omega
           clear HDD
           go_wp2_with fail
           all_goals go_meet
           all_goals simp [q2]
         · have q1 : ¬ (a : Int) + 1 < s.size:=by omega
           rw [List.drop_eq_nil_of_le (by simp;omega)] at HDD
           have q2 : b = false:=HDD.symm.trans (by rfl)
           clear HDD
           first
           | exact absurd q2 (by decide)
           | (go_wp2_with fail
              all_goals go_meet
              all_goals simp [q2])
       case rest =>
         obtain ⟨rfl,rfl⟩:=hcut
         go_wp2
         refine bodyPost_ret (v:=.tuple #[.agg #[.int .i64 6,.int .i64 a,.int .i64 (a + 1),.int .i64 0,.string (s.extract a (a + 1))],.int .i64 0]) (by simp [results,Tryz.results70,go_sem]) rfl ⟨by rw [HX.out,HE.out];simp [tokR],bel⟩
     have t91 : ((s[a].toNat : Int) == 91) = false:=eq_no (n:=91) (by decide) h91
     by_cases h93 : s[a] = 93
     · have t93 : ((s[a].toNat : Int) == 93) = true:=eq_yes (n:=93) (by decide) h93
       have HX:=Lh (show X = .good ⟨6,1,0,[s[a]]⟩ by rw [← hX,h93];rfl)
       have HE:=Lh (ext1 s a ha)
       clear hX hX0 hd h60 h62 h91 h93 hmx
       go_enter Tryz.func70,Tryz.ntmps70
       go_upto_region 2 with fail
       go_cut [7] (fun d wx => d = .bool b ∧ wx = w.alloc (.cells #[.int .i64 0,.int .i64 0,.int .i64 0,.int .i64 0,.string ⟨#[]⟩] 70))
       case first =>
         have HDD:=HD.out
         by_cases q0 : a + 1 < s.size
         · have q1 : (a : Int) + 1 < s.size:=by omega
           rw [drop_get s (a + 1) q0] at HDD
           have q2 : ((s[a + 1].toNat : Int) == (s[a].toNat : Int)) = b:=by rw [← HDD];simp only [List.head?_cons];rw [Bool.eq_iff_iff];simp [← UInt8.toNat_inj];omega
           clear HDD
           go_wp2_with fail
           all_goals go_meet
           all_goals simp [q2]
         · have q1 : ¬ (a : Int) + 1 < s.size:=by omega
           rw [List.drop_eq_nil_of_le (by simp;omega)] at HDD
           have q2 : b = false:=HDD.symm.trans (by rfl)
           clear HDD
           first
           | exact absurd q2 (by decide)
           | (go_wp2_with fail
              all_goals go_meet
              all_goals simp [q2])
       case rest =>
         obtain ⟨rfl,rfl⟩:=hcut
         go_wp2
         refine bodyPost_ret (v:=.tuple #[.agg #[.int .i64 6,.int .i64 a,.int .i64 (a + 1),.int .i64 0,.string (s.extract a (a + 1))],.int .i64 0]) (by simp [results,Tryz.results70,go_sem]) rfl ⟨by rw [HX.out,HE.out];simp [tokR],bel⟩
     have t93 : ((s[a].toNat : Int) == 93) = false:=eq_no (n:=93) (by decide) h93
     by_cases h123 : s[a] = 123
     · have t123 : ((s[a].toNat : Int) == 123) = true:=eq_yes (n:=123) (by decide) h123
       have HX:=Lh (show X = .good ⟨6,1,0,[s[a]]⟩ by rw [← hX,h123];rfl)
       have HE:=Lh (ext1 s a ha)
       clear hX hX0 hd h60 h62 h91 h93 h123 hmx
       go_enter Tryz.func70,Tryz.ntmps70
       go_upto_region 2 with fail
       go_cut [7] (fun d wx => d = .bool b ∧ wx = w.alloc (.cells #[.int .i64 0,.int .i64 0,.int .i64 0,.int .i64 0,.string ⟨#[]⟩] 70))
       case first =>
         have HDD:=HD.out
         by_cases q0 : a + 1 < s.size
         · have q1 : (a : Int) + 1 < s.size:=by omega
           rw [drop_get s (a + 1) q0] at HDD
           have q2 : ((s[a + 1].toNat : Int) == (s[a].toNat : Int)) = b:=by rw [← HDD];simp only [List.head?_cons];rw [Bool.eq_iff_iff];simp [← UInt8.toNat_inj];omega
           clear HDD
           go_wp2_with fail
           all_goals go_meet
           all_goals simp [q2]
         · have q1 : ¬ (a : Int) + 1 < s.size:=by omega
           rw [List.drop_eq_nil_of_le (by simp;omega)] at HDD
           have q2 : b = false:=HDD.symm.trans (by rfl)
           clear HDD
           first
           | exact absurd q2 (by decide)
           | (go_wp2_with fail
              all_goals go_meet
              all_goals simp [q2])
       case rest =>
         obtain ⟨rfl,rfl⟩:=hcut
         go_wp2
         refine bodyPost_ret (v:=.tuple #[.agg #[.int .i64 6,.int .i64 a,.int .i64 (a + 1),.int .i64 0,.string (s.extract a (a + 1))],.int .i64 0]) (by simp [results,Tryz.results70,go_sem]) rfl ⟨by rw [HX.out,HE.out];simp [tokR],bel⟩
     have t123 : ((s[a].toNat : Int) == 123) = false:=eq_no (n:=123) (by decide) h123
     by_cases h125 : s[a] = 125
     · have t125 : ((s[a].toNat : Int) == 125) = true:=eq_yes (n:=125) (by decide) h125
       have HX:=Lh (show X = .good ⟨6,1,0,[s[a]]⟩ by rw [← hX,h125];rfl)
       have HE:=Lh (ext1 s a ha)
       clear hX hX0 hd h60 h62 h91 h93 h123 h125 hmx
       go_enter Tryz.func70,Tryz.ntmps70
       go_upto_region 2 with fail
       go_cut [7] (fun d wx => d = .bool b ∧ wx = w.alloc (.cells #[.int .i64 0,.int .i64 0,.int .i64 0,.int .i64 0,.string ⟨#[]⟩] 70))
       case first =>
         have HDD:=HD.out
         by_cases q0 : a + 1 < s.size
         · have q1 : (a : Int) + 1 < s.size:=by omega
           rw [drop_get s (a + 1) q0] at HDD
           have q2 : ((s[a + 1].toNat : Int) == (s[a].toNat : Int)) = b:=by rw [← HDD];simp only [List.head?_cons];rw [Bool.eq_iff_iff];simp [← UInt8.toNat_inj];omega
           clear HDD
           go_wp2_with fail
           all_goals go_meet
           all_goals simp [q2]
         · have q1 : ¬ (a : Int) + 1 < s.size:=by omega
           rw [List.drop_eq_nil_of_le (by simp;omega)] at HDD
           have q2 : b = false:=HDD.symm.trans (by rfl)
           clear HDD
           first
           | exact absurd q2 (by decide)
           | (go_wp2_with fail
              all_goals go_meet
              all_goals simp [q2])
       case rest =>
         obtain ⟨rfl,rfl⟩:=hcut
         go_wp2
         refine bodyPost_ret (v:=.tuple #[.agg #[.int .i64 6,.int .i64 a,.int .i64 (a + 1),.int .i64 0,.string (s.extract a (a + 1))],.int .i64 0]) (by simp [results,Tryz.results70,go_sem]) rfl ⟨by rw [HX.out,HE.out];simp [tokR],bel⟩
     have t125 : ((s[a].toNat : Int) == 125) = false:=eq_no (n:=125) (by decide) h125
     by_cases h41 : s[a] = 41
     · have t41 : ((s[a].toNat : Int) == 41) = true:=eq_yes (n:=41) (by decide) h41
       have HX:=Lh (show X = .bad 3 by rw [← hX,h41];rfl)
       clear hX hX0 hd h60 h62 h91 h93 h123 h125 h41 hmx
       go_enter Tryz.func70,Tryz.ntmps70
       go_upto_region 2 with fail
       go_cut [7] (fun d wx => d = .bool b ∧ wx = w.alloc (.cells #[.int .i64 0,.int .i64 0,.int .i64 0,.int .i64 0,.string ⟨#[]⟩] 70))
       case first =>
         have HDD:=HD.out
         by_cases q0 : a + 1 < s.size
         · have q1 : (a : Int) + 1 < s.size:=by omega
           rw [drop_get s (a + 1) q0] at HDD
           have q2 : ((s[a + 1].toNat : Int) == (s[a].toNat : Int)) = b:=by rw [← HDD];simp only [List.head?_cons];rw [Bool.eq_iff_iff];simp [← UInt8.toNat_inj];omega
           clear HDD
           go_wp2_with fail
           all_goals go_meet
           all_goals simp [q2]
         · have q1 : ¬ (a : Int) + 1 < s.size:=by omega
           rw [List.drop_eq_nil_of_le (by simp;omega)] at HDD
           have q2 : b = false:=HDD.symm.trans (by rfl)
           clear HDD
           first
           | exact absurd q2 (by decide)
           | (go_wp2_with fail
              all_goals go_meet
              all_goals simp [q2])
       case rest =>
         obtain ⟨rfl,rfl⟩:=hcut
         go_wp2
         refine bodyPost_ret (v:=.tuple #[.agg #[.int .i64 0,.int .i64 0,.int .i64 0,.int .i64 0,.string ⟨#[]⟩],.int .i64 3]) (by simp [results,Tryz.results70,go_sem]) rfl ⟨by rw [HX.out];rfl,bel⟩
     have t41 : ((s[a].toNat : Int) == 41) = false:=eq_no (n:=41) (by decide) h41
     by_cases h47 : s[a] = 47
     · have t47 : ((s[a].toNat : Int) == 47) = true:=eq_yes (n:=47) (by decide) h47
       have hXX : nameT (s.data.toList.drop (a + 1)) = X:=by rw [← hX,h47];rfl
       have hrun:=fun W => rrun s (a + 1) (by omega) hmx W
       have hno:=nameT_out (s.data.toList.drop (a + 1))
       have hNle : a + 1 + regN (s.data.toList.drop (a + 1)) ≤ s.size:=by have:=regN_le' (s.data.toList.drop (a + 1));simp at this;omega
       have hnm:=fun W => rname (s.extract (a + 1) (a + 1 + regN (s.data.toList.drop (a + 1)))) (by simp;omega) W
       rw [ext_run] at hnm
       rw [hXX] at hno
       obtain ⟨N,hN⟩ : ∃ N,regN (s.data.toList.drop (a + 1)) = N:=⟨_,rfl⟩
       rw [hN] at hrun hno hNle hnm
       have HRUN:=Lh hrun
       clear hX hX0 hXX hd h60 h62 h91 h93 h123 h125 h41 h47 hmx hrun hN
       rcases hno with ⟨k,hx1,hk0,hx2⟩ | ⟨x,hx1,hx2⟩
       · rw [hx2] at hnm
         have HNM:=Lh hnm
         have HX:=Lh hx1
         clear hnm hx1 hx2
         go_enter Tryz.func70,Tryz.ntmps70
         go_upto_region 2 with fail
         go_cut [7] (fun d wx => d = .bool b ∧ wx = w.alloc (.cells #[.int .i64 0,.int .i64 0,.int .i64 0,.int .i64 0,.string ⟨#[]⟩] 70))
         case first =>
           have HDD:=HD.out
           by_cases q0 : a + 1 < s.size
           · have q1 : (a : Int) + 1 < s.size:=by omega
             rw [drop_get s (a + 1) q0] at HDD
             have q2 : ((s[a + 1].toNat : Int) == (s[a].toNat : Int)) = b:=by rw [← HDD];simp only [List.head?_cons];rw [Bool.eq_iff_iff];simp [← UInt8.toNat_inj];omega
             clear HDD
             go_wp2_with fail
             all_goals go_meet
             all_goals simp [q2]
           · have q1 : ¬ (a : Int) + 1 < s.size:=by omega
             rw [List.drop_eq_nil_of_le (by simp;omega)] at HDD
             have q2 : b = false:=HDD.symm.trans (by rfl)
             clear HDD
             first
             | exact absurd q2 (by decide)
             | (go_wp2_with fail
                all_goals go_meet
                all_goals simp [q2])
         case rest =>
           obtain ⟨rfl,rfl⟩:=hcut
           go_wp2_with (go_at_call 102;refine (HRUN.out _).mono ?_;rintro e w1 ⟨rfl,rfl⟩)
           refine (HNM.out _).mono ?_
           rintro e w2 ⟨rfl,hb2⟩
           obtain ⟨d0,d1,d2,d3,d4,df⟩:=five_at ((hb2.block _ (by simp)).trans (new_at w _))
           have dz : w.heap.size < w2.heap.size:=by have:=hb2.size;simp at this;omega
           go_wp2
           refine bodyPost_ret (v:=.tuple #[.agg #[.int .i64 0,.int .i64 0,.int .i64 0,.int .i64 0,.string ⟨#[]⟩],.int .i64 k]) (by simp [results,Tryz.results70,go_sem,d0,d1,d2,d3,d4,df,dz]) rfl ⟨by rw [HX.out];rfl,bel⟩
       · rw [hx2] at hnm
         have HNM:=Lh hnm
         have HX:=Lh hx1
         clear hnm hx1 hx2
         go_enter Tryz.func70,Tryz.ntmps70
         go_upto_region 2 with fail
         go_cut [7] (fun d wx => d = .bool b ∧ wx = w.alloc (.cells #[.int .i64 0,.int .i64 0,.int .i64 0,.int .i64 0,.string ⟨#[]⟩] 70))
         case first =>
           have HDD:=HD.out
           by_cases q0 : a + 1 < s.size
           · have q1 : (a : Int) + 1 < s.size:=by omega
             rw [drop_get s (a + 1) q0] at HDD
             have q2 : ((s[a + 1].toNat : Int) == (s[a].toNat : Int)) = b:=by rw [← HDD];simp only [List.head?_cons];rw [Bool.eq_iff_iff];simp [← UInt8.toNat_inj];omega
             clear HDD
             go_wp2_with fail
             all_goals go_meet
             all_goals simp [q2]
           · have q1 : ¬ (a : Int) + 1 < s.size:=by omega
             rw [List.drop_eq_nil_of_le (by simp;omega)] at HDD
             have q2 : b = false:=HDD.symm.trans (by rfl)
             clear HDD
             first
             | exact absurd q2 (by decide)
             | (go_wp2_with fail
                all_goals go_meet
                all_goals simp [q2])
         case rest =>
           obtain ⟨rfl,rfl⟩:=hcut
           go_wp2_with (go_at_call 102;refine (HRUN.out _).mono ?_;rintro e w1 ⟨rfl,rfl⟩)
           refine (HNM.out _).mono ?_
           rintro e w2 ⟨rfl,hb2⟩
           obtain ⟨d0,d1,d2,d3,d4,df⟩:=five_at ((hb2.block _ (by simp)).trans (new_at w _))
           have dz : w.heap.size < w2.heap.size:=by have:=hb2.size;simp at this;omega
           go_wp2
           refine bodyPost_ret (v:=.tuple #[.agg #[.int .i64 4,.int .i64 a,.int .i64 (a + 1 + N),.int .i64 0,.string ⟨x.toArray⟩],.int .i64 0]) (by simp [results,Tryz.results70,go_sem,d0,d1,d2,d3,d4,df,dz]) rfl ⟨by rw [HX.out];simp [tokR];omega,bel⟩
     have t47 : ((s[a].toNat : Int) == 47) = false:=eq_no (n:=47) (by decide) h47
     by_cases h40 : s[a] = 40
     · have t40 : ((s[a].toNat : Int) == 40) = true:=eq_yes (n:=40) (by decide) h40
       have hXX : textT (s.data.toList.drop (a + 1)) = X:=by rw [← hX,h40];rfl
       unfold textT at hXX
       have hso:=strOf_out a (textS [] 0 1 0 (s.data.toList.drop (a + 1))) (fun e he => by have:=textS_bad he;omega)
       rw [hXX] at hso
       have htx:=fun W => rtext s (a + 1) (by omega) hs W
       clear hX hX0 hXX hd h60 h62 h91 h93 h123 h125 h41 h47 h40 hmx
       rcases hso with ⟨k,hx1,hk0,hx2⟩ | ⟨x,n,hx1,hx2⟩
       · rw [hx2] at htx
         have HTX:=Lh htx
         have HX:=Lh hx1
         clear htx hx1 hx2
         go_enter Tryz.func70,Tryz.ntmps70
         go_upto_region 2 with fail
         go_cut [7] (fun d wx => d = .bool b ∧ wx = w.alloc (.cells #[.int .i64 0,.int .i64 0,.int .i64 0,.int .i64 0,.string ⟨#[]⟩] 70))
         case first =>
           have HDD:=HD.out
           by_cases q0 : a + 1 < s.size
           · have q1 : (a : Int) + 1 < s.size:=by omega
             rw [drop_get s (a + 1) q0] at HDD
             have q2 : ((s[a + 1].toNat : Int) == (s[a].toNat : Int)) = b:=by rw [← HDD];simp only [List.head?_cons];rw [Bool.eq_iff_iff];simp [← UInt8.toNat_inj];omega
             clear HDD
             go_wp2_with fail
             all_goals go_meet
             all_goals simp [q2]
           · have q1 : ¬ (a : Int) + 1 < s.size:=by omega
             rw [List.drop_eq_nil_of_le (by simp;omega)] at HDD
             have q2 : b = false:=HDD.symm.trans (by rfl)
             clear HDD
             first
             | exact absurd q2 (by decide)
             | (go_wp2_with fail
                all_goals go_meet
                all_goals simp [q2])
         case rest =>
           obtain ⟨rfl,rfl⟩:=hcut
           go_wp2_with fail
           refine (HTX.out _).mono ?_
           rintro e w2 ⟨rfl,hb2⟩
           obtain ⟨d0,d1,d2,d3,d4,df⟩:=five_at ((hb2.block _ (by simp)).trans (new_at w _))
           have dz : w.heap.size < w2.heap.size:=by have:=hb2.size;simp at this;omega
           go_wp2
           refine bodyPost_ret (v:=.tuple #[.agg #[.int .i64 0,.int .i64 0,.int .i64 0,.int .i64 0,.string ⟨#[]⟩],.int .i64 k]) (by simp [results,Tryz.results70,go_sem,d0,d1,d2,d3,d4,df,dz]) rfl ⟨by rw [HX.out];rfl,bel⟩
       · rw [hx2] at htx
         have HTX:=Lh htx
         have HX:=Lh hx1
         clear htx hx1 hx2
         go_enter Tryz.func70,Tryz.ntmps70
         go_upto_region 2 with fail
         go_cut [7] (fun d wx => d = .bool b ∧ wx = w.alloc (.cells #[.int .i64 0,.int .i64 0,.int .i64 0,.int .i64 0,.string ⟨#[]⟩] 70))
         case first =>
           have HDD:=HD.out
           by_cases q0 : a + 1 < s.size
           · have q1 : (a : Int) + 1 < s.size:=by omega
             rw [drop_get s (a + 1) q0] at HDD
             have q2 : ((s[a + 1].toNat : Int) == (s[a].toNat : Int)) = b:=by rw [← HDD];simp only [List.head?_cons];rw [Bool.eq_iff_iff];simp [← UInt8.toNat_inj];omega
             clear HDD
             go_wp2_with fail
             all_goals go_meet
             all_goals simp [q2]
           · have q1 : ¬ (a : Int) + 1 < s.size:=by omega
             rw [List.drop_eq_nil_of_le (by simp;omega)] at HDD
             have q2 : b = false:=HDD.symm.trans (by rfl)
             clear HDD
             first
             | exact absurd q2 (by decide)
             | (go_wp2_with fail
                all_goals go_meet
                all_goals simp [q2])
         case rest =>
           obtain ⟨rfl,rfl⟩:=hcut
           go_wp2_with fail
           refine (HTX.out _).mono ?_
           rintro e w2 ⟨rfl,hb2⟩
           obtain ⟨d0,d1,d2,d3,d4,df⟩:=five_at ((hb2.block _ (by simp)).trans (new_at w _))
           have dz : w.heap.size < w2.heap.size:=by have:=hb2.size;simp at this;omega
           go_wp2
           refine bodyPost_ret (v:=.tuple #[.agg #[.int .i64 3,.int .i64 a,.int .i64 (a + 1 + n),.int .i64 0,.string ⟨x.toArray⟩],.int .i64 0]) (by simp [results,Tryz.results70,go_sem,d0,d1,d2,d3,d4,df,dz]) rfl ⟨by rw [HX.out];simp [tokR];omega,bel⟩
     have t40 : ((s[a].toNat : Int) == 40) = false:=eq_no (n:=40) (by decide) h40
     have hrun:=fun W => rrun s a (by omega) hmx W
     have hNle : a + regN (s.data.toList.drop a) ≤ s.size:=by have:=regN_le' (s.data.toList.drop a);simp at this;omega
     have hwd:=fun W => rword (s.extract a (a + regN (s.data.toList.drop a))) (by simp;omega) W
     rw [ext_run] at hwd
     have hXX : wordT ((s.data.toList.drop a).take (regN (s.data.toList.drop a))) = X:=by
       rw [← hX,drop_get s a ha];simp [h60,h62,h91,h93,h123,h125,h41,h47,h40]
     rw [hXX] at hwd
     have hlen : ((s.data.toList.drop a).take (regN (s.data.toList.drop a))).length = regN (s.data.toList.drop a):=by
       rw [List.length_take];have:=regN_le' (s.data.toList.drop a);omega
     obtain ⟨l,hl⟩ : ∃ l,(s.data.toList.drop a).take (regN (s.data.toList.drop a)) = l:=⟨_,rfl⟩
     rw [hl] at hXX hlen
     obtain ⟨N,hN⟩ : ∃ N,regN (s.data.toList.drop a) = N:=⟨_,rfl⟩
     rw [hN] at hrun hNle hwd hlen
     have HRUN:=Lh hrun
     have HWD:=Lh hwd
     clear hX hX0 hd h60 h62 h91 h93 h123 h125 h41 h47 h40 hmx hrun hwd hl hN
     cases X with
     | bad k =>
       have hk0 : (k != 0) = true:=by have:=wordT_bad hXX;simp;omega
       clear hXX hlen
       go_enter Tryz.func70,Tryz.ntmps70
       go_upto_region 2 with fail
       go_cut [7] (fun d wx => d = .bool b ∧ wx = w.alloc (.cells #[.int .i64 0,.int .i64 0,.int .i64 0,.int .i64 0,.string ⟨#[]⟩] 70))
       case first =>
         have HDD:=HD.out
         by_cases q0 : a + 1 < s.size
         · have q1 : (a : Int) + 1 < s.size:=by omega
           rw [drop_get s (a + 1) q0] at HDD
           have q2 : ((s[a + 1].toNat : Int) == (s[a].toNat : Int)) = b:=by rw [← HDD];simp only [List.head?_cons];rw [Bool.eq_iff_iff];simp [← UInt8.toNat_inj];omega
           clear HDD
           go_wp2_with fail
           all_goals go_meet
           all_goals simp [q2]
         · have q1 : ¬ (a : Int) + 1 < s.size:=by omega
           rw [List.drop_eq_nil_of_le (by simp;omega)] at HDD
           have q2 : b = false:=HDD.symm.trans (by rfl)
           clear HDD
           first
           | exact absurd q2 (by decide)
           | (go_wp2_with fail
              all_goals go_meet
              all_goals simp [q2])
       case rest =>
         obtain ⟨rfl,rfl⟩:=hcut
         go_wp2_with (go_at_call 102;refine (HRUN.out _).mono ?_;rintro e w1 ⟨rfl,rfl⟩)
         refine (HWD.out _).mono ?_
         rintro e w2 ⟨⟨kd,nn,rfl⟩,hb2⟩
         obtain ⟨d0,d1,d2,d3,d4,df⟩:=five_at ((hb2.block _ (by simp)).trans (new_at w _))
         have dz : w.heap.size < w2.heap.size:=by have:=hb2.size;simp at this;omega
         go_wp2
         refine bodyPost_ret (v:=.tuple #[.agg #[.int .i64 0,.int .i64 0,.int .i64 0,.int .i64 0,.string ⟨#[]⟩],.int .i64 k]) (by simp [results,Tryz.results70,go_sem,d0,d1,d2,d3,d4,df,dz]) rfl ⟨rfl,bel⟩
     | good t =>
       have HL:=Lh (show t.len = N by have:=(wordT_good hXX).1;omega)
       clear hXX hlen
       go_enter Tryz.func70,Tryz.ntmps70
       go_upto_region 2 with fail
       go_cut [7] (fun d wx => d = .bool b ∧ wx = w.alloc (.cells #[.int .i64 0,.int .i64 0,.int .i64 0,.int .i64 0,.string ⟨#[]⟩] 70))
       case first =>
         have HDD:=HD.out
         by_cases q0 : a + 1 < s.size
         · have q1 : (a : Int) + 1 < s.size:=by omega
           rw [drop_get s (a + 1) q0] at HDD
           have q2 : ((s[a + 1].toNat : Int) == (s[a].toNat : Int)) = b:=by rw [← HDD];simp only [List.head?_cons];rw [Bool.eq_iff_iff];simp [← UInt8.toNat_inj];omega
           clear HDD
           go_wp2_with fail
           all_goals go_meet
           all_goals simp [q2]
         · have q1 : ¬ (a : Int) + 1 < s.size:=by omega
           rw [List.drop_eq_nil_of_le (by simp;omega)] at HDD
           have q2 : b = false:=HDD.symm.trans (by rfl)
           clear HDD
           first
           | exact absurd q2 (by decide)
           | (go_wp2_with fail
              all_goals go_meet
              all_goals simp [q2])
       case rest =>
         obtain ⟨rfl,rfl⟩:=hcut
         go_wp2_with (go_at_call 102;refine (HRUN.out _).mono ?_;rintro e w1 ⟨rfl,rfl⟩)
         refine (HWD.out _).mono ?_
         rintro e w2 ⟨rfl,hb2⟩
         obtain ⟨d0,d1,d2,d3,d4,df⟩:=five_at ((hb2.block _ (by simp)).trans (new_at w _))
         have dz : w.heap.size < w2.heap.size:=by have:=hb2.size;simp at this;omega
         go_wp2
         refine bodyPost_ret (v:=.tuple #[.agg #[.int .i64 t.kind,.int .i64 a,.int .i64 (a + N),.int .i64 t.n,.string ⟨t.s.toArray⟩],.int .i64 0]) (by simp [results,Tryz.results70,go_sem,d0,d1,d2,d3,d4,df,dz]) rfl ⟨by simp [tokR,HL.out],bel⟩
theorem tokR_shape (a : Nat) (X : Res Tok) : ∃ (v0 v1 v2 v3 v5 : Int) (v4 : ByteArray),tokR a X = .tuple #[.agg #[.int .i64 v0,.int .i64 v1,.int .i64 v2,.int .i64 v3,.string v4],.int .i64 v5]:=by
 cases X with
 | bad e => exact ⟨_,_,_,_,_,_,rfl⟩
 | good t => exact ⟨_,_,_,_,_,_,rfl⟩
theorem rnextT (s : ByteArray) (a : Nat) (ha : a ≤ s.size) (hs : s.size ≤ 140737488355327) (w : World) :
   Calls Tryz.prog 31 #[.string s,.int .i64 a] w fun e w' => e = .returned (tokR (a + (nextT (s.data.toList.drop a)).1) (nextT (s.data.toList.drop a)).2) ∧ Below w.heap.size w w':=by
 have hz0 : decide ((a : Int) < 0) = false:=by simp
 have hz1 : decide (s.size < a) = false:=by simp;omega
 unfold nextT
 have hsk:=fun W => rskip s a ha hs W
 obtain ⟨p,hp0⟩ : ∃ p,a + skipN false (s.data.toList.drop a) = p:=⟨_,rfl⟩
 have hple : p ≤ s.size:=by have:=skipN_le false (s.data.toList.drop a);simp at this;omega
 rw [List.drop_drop]
 simp only [hp0]
 rw [hp0] at hsk
 have HP:=Lh hsk
 clear hp0 hsk
 by_cases hp : p < s.size
 · have hne : s.data.toList.drop p ≠ []:=by rw [drop_get s p hp];simp
   rw [if_neg hne]
   have htk:=fun W => rtoken s p hp hs W
   obtain ⟨V,hV⟩ : ∃ V,tokR p (tokT (s.data.toList.drop p)) = V:=⟨_,rfl⟩
   rw [hV] at htk
   rw [hV]
   obtain ⟨v0,v1,v2,v3,v5,v4,hsh⟩:=tokR_shape p (tokT (s.data.toList.drop p))
   rw [hV] at hsh
   subst hsh
   have HT:=Lh htk
   clear htk hV hne
   go_enter Tryz.func31,Tryz.ntmps31
   go_wp2_with (go_at_call 69;refine (HP.out _).mono ?_;rintro e w' ⟨rfl,rfl⟩)
   refine (HT.out _).mono ?_
   rintro e w2 ⟨rfl,hb2⟩
   obtain ⟨d0,d1,d2,d3,d4,df⟩:=five_at ((hb2.block _ (by simp)).trans (new_at w _))
   have dz : w.heap.size < w2.heap.size:=by have:=hb2.size;simp at this;omega
   go_wp2
   refine bodyPost_ret (v:=.tuple #[.agg #[.int .i64 v0,.int .i64 v1,.int .i64 v2,.int .i64 v3,.string v4],.int .i64 v5]) (by simp [results,Tryz.results31,go_sem,d0,d1,d2,d3,d4,df,dz]) rfl ⟨rfl,bel⟩
 · have hp2 : p = s.size:=by omega
   rw [if_pos (List.drop_eq_nil_of_le (by have : s.data.toList.length = s.size:=rfl;omega))]
   subst hp2
   go_enter Tryz.func31,Tryz.ntmps31
   go_wp2_with (go_at_call 69;refine (HP.out _).mono ?_;rintro e w' ⟨rfl,rfl⟩)
   refine bodyPost_ret (v:=.tuple #[.agg #[.int .i64 0,.int .i64 s.size,.int .i64 s.size,.int .i64 0,.string ⟨#[]⟩],.int .i64 0]) (by simp [results,Tryz.results31,go_sem]) rfl ⟨by simp [tokR],bel⟩
theorem rnext_tok (s : ByteArray) (a p : Nat) (t : Tok) (h : (nextT (s.data.toList.drop a)).2 = .good t) (hp : a + (nextT (s.data.toList.drop a)).1 = p) (ha : a ≤ s.size) (hs : s.size ≤ 140737488355327) (w : World) :
   Calls Tryz.prog 31 #[.string s,.int .i64 a] w fun e w' => e = .returned (.tuple #[.agg #[.int .i64 t.kind,.int .i64 p,.int .i64 ((p + t.len : Nat) : Int),.int .i64 t.n,.string ⟨t.s.toArray⟩],.int .i64 0]) ∧ Below w.heap.size w w':=by
 have:=tok_good h (rnextT s a ha hs w)
 rw [hp] at this;exact this
theorem rnext_err (s : ByteArray) (a : Nat) (k : Int) (h : (nextT (s.data.toList.drop a)).2 = .bad k) (ha : a ≤ s.size) (hs : s.size ≤ 140737488355327) (w : World) :
   Calls Tryz.prog 31 #[.string s,.int .i64 a] w fun e w' => e = .returned (.tuple #[.agg #[.int .i64 0,.int .i64 0,.int .i64 0,.int .i64 0,.string ⟨#[]⟩],.int .i64 k]) ∧ Below w.heap.size w w' :=
 tok_bad h (rnextT s a ha hs w)
theorem prefix_take {p l : L} : p.isPrefixOf l = (l.take p.length == p):=by
 induction p generalizing l with
 | nil => simp
 | cons a p ih =>
   cases l with
   | nil => simp
   | cons b l =>
     rw [List.isPrefixOf_cons₂,ih,List.length_cons,List.take_succ_cons]
     by_cases h : a = b
     · subst h;simp
     · have h1 : (a == b) = false:=by simpa using h
       have h2 : (b == a) = false:=by simpa using Ne.symm h
       rw [h1]
       simp [Ne.symm h]
theorem rbegins_any (s p : ByteArray) (k : Nat) (hk : k ≤ s.size) (hs : s.size ≤ 140737488355327) (hp : p.size ≤ 1000) (w : World) :
   Calls Tryz.prog 32 #[.string s,.string p,.int .i64 k] w fun e w' => e = .returned (.bool (p.data.toList.isPrefixOf (s.data.toList.drop k))) ∧ w' = w:=by
 have e1 : decide ((k : Int) ≤ s.size) = true:=by simp;omega
 have hps : p.data.toList.length = p.size:=rfl
 have hss : s.data.toList.length = s.size:=rfl
 by_cases h2 : k + p.size ≤ s.size
 · have e2 : decide ((p.size : Int) ≤ s.size - k) = true:=by simp;omega
   have HX:=Lh (show ((s.extract k (k + p.size)).toList == p.toList) = p.data.toList.isPrefixOf (s.data.toList.drop k) by
     rw [prefix_take,hps]
     have h3 : (s.extract k (k + p.size)).data.toList = (s.data.toList.drop k).take p.size:=by rw [Lib.extract_data];simp
     rw [Lib.toList_data,Lib.toList_data,h3])
   go_enter Tryz.func32,Tryz.ntmps32
   go_wp2
   go_ret
   exact ⟨ret_bool HX.out,rfl⟩
 · have e2 : decide ((p.size : Int) ≤ s.size - k) = false:=by simp;omega
   have HX:=Lh (show p.data.toList.isPrefixOf (s.data.toList.drop k) = false by
     rw [prefix_take,hps,beq_eq_false_iff_ne]
     intro h
     have:=congrArg List.length h
     simp at this
     omega)
   go_enter Tryz.func32,Tryz.ntmps32
   go_wp2
   go_ret
   exact ⟨ret_bool HX.out.symm,rfl⟩
theorem lastR_step {p l : L} {c : UInt8} {i : Nat} {out : Int} : (match lastR p (c :: l) with | some k => ((i + k : Nat) : Int) | none => out) = (match lastR p l with | some k => ((i + 1 + k : Nat) : Int) | none => if p.isPrefixOf (c :: l) then (i : Int) else out):=by
 rw [lastR]
 cases lastR p l with
 | some k => simp;omega
 | none =>
   dsimp only
   by_cases h : p.isPrefixOf (c :: l) = true
   · rw [if_pos h,if_pos h];simp
   · rw [if_neg h,if_neg h]
theorem rlast (s p : ByteArray) (hs : s.size ≤ 140737488355327) (hp : p.size ≤ 1000) (hp0 : 0 < p.size) (w : World) :
   Calls Tryz.prog 30 #[.string s,.string p] w fun e w' => e = .returned (.int .i64 (match lastR p.data.toList s.data.toList with | some k => ((k : Nat) : Int) | none => -1)) ∧ w' = w:=by
 have hps : p.data.toList.length = p.size:=rfl
 have hss : s.data.toList.length = s.size:=rfl
 have hpe : p.toList.isEmpty = false:=by
   rw [Lib.toList_data]
   cases h : p.data.toList with
   | nil => rw [h] at hps;simp at hps;omega
   | cons a l => rfl
 have HB:=Lh (fun k hk W => rbegins_any s p k hk hs hp W)
 obtain ⟨R,hR⟩ : ∃ R : Int,(match lastR p.data.toList s.data.toList with | some k => ((k : Nat) : Int) | none => -1) = R:=⟨_,rfl⟩
 have HR:=Lh hR
 rw [hR]
 clear hR
 go_enter Tryz.func30,Tryz.ntmps30
 go_wp2
 go_loopw [5,6] (fun o i wr => ∃ (k : Nat) (out : Int),k ≤ s.size ∧ i = .int .i64 k ∧ o = .int .i64 out ∧ wr = w ∧ Hid ((match lastR p.data.toList (s.data.toList.drop k) with | some j => ((k + j : Nat) : Int) | none => out) = R)) (fun _ i _ => s.size - (intOf i).toNat)
 case atStart => exact ⟨0,-1,Nat.zero_le _,rfl,rfl,rfl,Lh (by rw [← HR.out];simp)⟩
 case round =>
   obtain ⟨k,out,hk,rfl,rfl,rfl,H⟩:=hrel
   by_cases hlk : k < s.size
   · have hd : s.data.toList.drop k = s[k] :: s.data.toList.drop (k + 1):=drop_get s k hlk
     have hst:=H.out
     rw [hd,lastR_step,← hd] at hst
     have HB2:=Lh (HB.out k hk)
     cases hb : p.data.toList.isPrefixOf (s.data.toList.drop k)
     · rw [hb] at hst HB2
       have HST:=Lh hst
       clear hb hd hst H
       go_wp2_with fail
       refine (HB2.out _).mono ?_
       rintro e w2 ⟨rfl,h2⟩
       obtain rfl:=h2.symm
       go_wp2
       go_roundw
       case rel => exact ⟨k + 1,out,by omega,by go_num,rfl,trivial,HST⟩
       case measure => simp [intOf];omega
     · rw [hb] at hst HB2
       have HST:=Lh hst
       clear hb hd hst H
       go_wp2_with fail
       refine (HB2.out _).mono ?_
       rintro e w2 ⟨rfl,h2⟩
       obtain rfl:=h2.symm
       go_wp2
       go_roundw
       case rel => exact ⟨k + 1,k,by omega,by go_num,rfl,trivial,HST⟩
       case measure => simp [intOf];omega
   · have HE := Lib.hid (show out = R by
       rw [← H.out,List.drop_eq_nil_of_le (by omega),lastR,if_neg]
       intro h;rw [h] at hps;simp at hps;omega)
     go_wp2
     go_ret
     exact ⟨by rw [HE.out];rfl,rfl⟩
theorem rstart (s : ByteArray) (hs : s.size ≤ 140737488355327) (at' n : Nat) (t : Tok) (h1 : lastR wordSx s.data.toList = some at') (h9 : at' + 9 ≤ s.size) (h2 : (nextT (s.data.toList.drop (at' + 9))).2 = .good t) (hk : t.kind = 1) (hn : t.n = (n : Nat)) (hlt : n < s.size) (w : World) :
   Calls Tryz.prog 13 #[.string s] w fun e w' => e = .returned (.tuple #[.int .i64 n,.int .i64 0]) ∧ Below w.heap.size w w':=by
 have HL:=Lh (fun W => show Calls Tryz.prog 30 #[.string s,.string ⟨#[115,116,97,114,116,120,114,101,102]⟩] W (fun e w' => e = .returned (.int .i64 at') ∧ w' = W) from by
   have:=rlast s ⟨wordSx.toArray⟩ hs (by decide) (by decide) W
   rw [show (⟨wordSx.toArray⟩ : ByteArray).data.toList = wordSx from rfl,h1] at this
   exact this)
 obtain ⟨p,hp⟩ : ∃ p,at' + 9 + (nextT (s.data.toList.drop (at' + 9))).1 = p:=⟨_,rfl⟩
 have HN:=Lh (fun W => rnext_tok s (at' + 9) p t h2 hp h9 hs W)
 rw [hk,hn] at HN
 have w9 : IntKind.i64.wrap ((at' : Int) + 9) = ((at' + 9 : Nat) : Int):=by rw [IntWalk.i64_in _ (by omega)];omega
 have e1 : decide ((at' : Int) < 0) = false:=by simp
 have e2 : decide ((n : Int) < 0) = false:=by simp
 have e3 : decide ((n : Int) ≥ s.size) = false:=by simp;omega
 clear h1 h2 hp hk hn
 go_enter Tryz.func13,Tryz.ntmps13
 go_wp2_with fail
 refine (HL.out _).mono ?_
 rintro e w2 ⟨rfl,h2⟩
 obtain rfl:=h2.symm
 go_wp2_with fail
 refine (HN.out _).mono ?_
 rintro e w3 ⟨rfl,hb3⟩
 have hz3:=hb3.size
 go_wp2
 go_ret2
 exact ⟨rfl,bel⟩
def KWordOut (s : ByteArray) (R : Option L) (w : World) (e : Ending) (w' : World) : Prop :=
 (∃ z : Int,e = .returned (.tuple #[.int .i64 z,.bool R.isSome]) ∧ ∀ rest,R = some rest → ∃ q : Nat,z = q ∧ q ≤ s.size ∧ s.data.toList.drop q = rest) ∧ Below w.heap.size w w'
theorem next_facts (s : ByteArray) (a : Nat) (ha : a ≤ s.size) (hs : s.size ≤ 140737488355327) (t : Tok) (hn : (nextT (s.data.toList.drop a)).2 = .good t) :
   ∃ p q : Nat,q ≤ s.size ∧ s.data.toList.drop q = (s.data.toList.drop a).drop ((nextT (s.data.toList.drop a)).1 + t.len) ∧
     ∀ W,Calls Tryz.prog 31 #[.string s,.int .i64 a] W fun e w' => e = .returned (.tuple #[.agg #[.int .i64 t.kind,.int .i64 p,.int .i64 (q : Nat),.int .i64 t.n,.string ⟨t.s.toArray⟩],.int .i64 0]) ∧ Below W.heap.size W w':=by
 refine ⟨a + (nextT (s.data.toList.drop a)).1,a + (nextT (s.data.toList.drop a)).1 + t.len,?_,?_,fun W => rnext_tok s a _ t hn rfl ha hs W⟩
 · have:=(nextT_good hn).1
   rw [List.length_drop] at this
   have h2 : s.data.toList.length = s.size:=rfl
   omega
 · rw [List.drop_drop,Nat.add_assoc]
theorem kword (s : ByteArray) (a : Nat) (x : L) (ha : a ≤ s.size) (hs : s.size ≤ 140737488355327) (w : World) :
   Calls Tryz.prog 33 #[.string s,.int .i64 a,.string ⟨x.toArray⟩] w (KWordOut s (wordR (s.data.toList.drop a) x) w):=by
 cases hn : (nextT (s.data.toList.drop a)).2 with
 | bad k =>
   have HR:=Lh (show wordR (s.data.toList.drop a) x = none by unfold wordR;rw [hn])
   have HN:=Lh (fun W => rnext_err s a k hn ha hs W)
   have hk : (k == 0) = false:=by have:=nextT_bad hn;simp;omega
   rw [HR.out]
   clear hn
   go_enter Tryz.func33,Tryz.ntmps33
   go_wp2_with fail
   refine (HN.out _).mono ?_
   rintro e w1 ⟨rfl,hb1⟩
   have hz1:=hb1.size
   go_wp2_with fail
   go_quiet (fail)
   go_wp2
   go_ret2
   exact ⟨⟨_,rfl,fun _ h => by cases h⟩,bel⟩
 | good t =>
   obtain ⟨p,q,hq,hd,hN⟩:=next_facts s a ha hs t hn
   have HN:=Lh hN
   have HQ:=Lh hq
   have hR : wordR (s.data.toList.drop a) x = if t.kind = 5 ∧ t.s = x then some (s.data.toList.drop q) else none:=by unfold wordR;rw [hn];dsimp only;rw [hd]
   cases h5 : (t.kind == 5)
   · have HR:=Lh (show wordR (s.data.toList.drop a) x = none by rw [hR,if_neg (fun h => by simp [h.1] at h5)])
     rw [HR.out]
     clear hn hN hq hd hR
     go_enter Tryz.func33,Tryz.ntmps33
     go_wp2_with fail
     refine (HN.out _).mono ?_
     rintro e w1 ⟨rfl,hb1⟩
     have hz1:=hb1.size
     go_wp2_with fail
     go_quiet (fail)
     go_wp2
     go_ret2
     exact ⟨⟨_,rfl,fun _ h => by cases h⟩,bel⟩
   · cases hx : (t.s == x)
     · have HR:=Lh (show wordR (s.data.toList.drop a) x = none by rw [hR,if_neg (fun h => by simp [h.2] at hx)])
       rw [HR.out]
       clear hn hN hq hd hR
       go_enter Tryz.func33,Tryz.ntmps33
       go_wp2_with fail
       refine (HN.out _).mono ?_
       rintro e w1 ⟨rfl,hb1⟩
       have hz1:=hb1.size
       go_wp2_with fail
       go_quiet (fail)
       go_wp2
       go_ret2
       exact ⟨⟨_,rfl,fun _ h => by cases h⟩,bel⟩
     · have HR:=Lh (show wordR (s.data.toList.drop a) x = some (s.data.toList.drop q) by rw [hR,if_pos ⟨by simpa using h5,by simpa using hx⟩])
       rw [HR.out]
       clear hn hN hq hd hR
       go_enter Tryz.func33,Tryz.ntmps33
       go_wp2_with fail
       refine (HN.out _).mono ?_
       rintro e w1 ⟨rfl,hb1⟩
       have hz1:=hb1.size
       go_wp2_with fail
       go_quiet (fail)
       go_wp2
       go_ret2
       exact ⟨⟨_,rfl,fun rest h => by cases h;exact ⟨q,rfl,HQ.out,rfl⟩⟩,bel⟩
theorem knumber (s : ByteArray) (a : Nat) (lo hi n : Int) (rest : L) (ha : a ≤ s.size) (hs : s.size ≤ 140737488355327) (hR : numR (s.data.toList.drop a) lo hi = some (n, rest)) (hlo : -9223372036854775808 ≤ lo) (hhi : hi ≤ 9223372036854775807) (w : World) :
   Calls Tryz.prog 34 #[.string s,.int .i64 a,.int .i64 lo,.int .i64 hi] w fun e w' => ∃ q : Nat,e = .returned (.tuple #[.int .i64 n,.int .i64 q,.bool true]) ∧ q ≤ s.size ∧ s.data.toList.drop q = rest ∧ Below w.heap.size w w':=by
 unfold numR at hR
 cases hn : (nextT (s.data.toList.drop a)).2 with
 | bad k => rw [hn] at hR;cases hR
 | good t =>
   rw [hn] at hR
   dsimp only at hR
   by_cases hc : t.kind = 1 ∧ lo ≤ t.n ∧ t.n ≤ hi
   · rw [if_pos hc] at hR
     obtain ⟨p,q,hq,hd,hN⟩:=next_facts s a ha hs t hn
     cases hR
     have HN:=Lh hN
     have HQ:=Lh (And.intro hq hd)
     have e1 : (t.kind != 1) = false:=by simp [hc.1]
     have e2 : decide (t.n < lo) = false:=by simp;omega
     have e3 : decide (t.n > hi) = false:=by simp;omega
     clear hn hN hq hd hc
     go_enter Tryz.func34,Tryz.ntmps34
     go_wp2_with fail
     refine (HN.out _).mono ?_
     rintro e w1 ⟨rfl,hb1⟩
     have hz1:=hb1.size
     go_wp2_with fail
     go_quiet (fail)
     go_wp2
     go_ret3
     exact ⟨q,rfl,HQ.out.1,HQ.out.2,bel⟩
   · rw [if_neg hc] at hR;cases hR
theorem entry_parts {num : Int} {l : L} {x : Sl} {rest : L} (h : entryR num l = some (x, rest)) : ∃ A l1 B l2, numR l 0 2147483647 = some (A, l1) ∧ numR l1 0 65535 = some (B, l2) ∧
   ((wordR l2 [110] = some rest ∧ x = ⟨num,1,A,B⟩) ∨ (wordR l2 [110] = none ∧ wordR l2 [102] = some rest ∧ x = ⟨num,0,A,B⟩)):=by
 unfold entryR at h
 cases h1 : numR l 0 2147483647 with
 | none => rw [h1] at h;cases h
 | some z =>
   obtain ⟨A,l1⟩:=z
   rw [h1] at h
   dsimp only at h
   cases h2 : numR l1 0 65535 with
   | none => rw [h2] at h;cases h
   | some z =>
     obtain ⟨B,l2⟩:=z
     rw [h2] at h
     dsimp only at h
     refine ⟨A,l1,B,l2,rfl,h2,?_⟩
     cases h3 : wordR l2 [110] with
     | some l3 => rw [h3] at h;cases h;exact .inl ⟨rfl,rfl⟩
     | none =>
       rw [h3] at h
       dsimp only at h
       cases h4 : wordR l2 [102] with
       | none => rw [h4] at h;cases h
       | some l3 => rw [h4] at h;cases h;exact .inr ⟨rfl,rfl,rfl⟩
theorem kentry (s : ByteArray) (a : Nat) (num : Int) (x : Sl) (rest : L) (ha : a ≤ s.size) (hs : s.size ≤ 140737488355327) (hR : entryR num (s.data.toList.drop a) = some (x, rest)) (w : World) :
   Calls Tryz.prog 35 #[.string s,.int .i64 a,.int .i64 num] w fun e w' => ∃ q : Nat,e = .returned (.tuple #[.agg #[.int .i64 x.num,.int .i64 x.kind,.int .i64 x.a,.int .i64 x.b],.int .i64 q,.bool true]) ∧ q ≤ s.size ∧ s.data.toList.drop q = rest ∧ Below w.heap.size w w':=by
 obtain ⟨A,l1,B,l2,h1,h2,h3⟩:=entry_parts hR
 have HN1:=Lh (fun W => knumber s a 0 2147483647 A l1 ha hs h1 (by decide) (by decide) W)
 have HN2:=Lh (fun (q : Nat) (hq : q ≤ s.size) (hd : s.data.toList.drop q = l1) W => knumber s q 0 65535 B l2 hq hs (by rw [hd];exact h2) (by decide) (by decide) W)
 have HW1:=Lh (fun (q : Nat) (hq : q ≤ s.size) (hd : s.data.toList.drop q = l2) W => (show Calls Tryz.prog 33 #[.string s,.int .i64 q,.string ⟨#[110]⟩] W (KWordOut s (wordR l2 [110]) W) from by rw [← hd];exact kword s q [110] hq hs W))
 have HW2:=Lh (fun (q : Nat) (hq : q ≤ s.size) (hd : s.data.toList.drop q = l2) W => (show Calls Tryz.prog 33 #[.string s,.int .i64 q,.string ⟨#[102]⟩] W (KWordOut s (wordR l2 [102]) W) from by rw [← hd];exact kword s q [102] hq hs W))
 clear hR h1 h2
 go_enter Tryz.func35,Tryz.ntmps35
 go_wp2_with fail
 refine (HN1.out _).mono ?_
 rintro e w1 ⟨q1,rfl,hq1,hd1,hb1⟩
 have Z0:=(hb1.block _ (by simp)).trans (heap_new_at w _ _ rfl)
 have hz1:=hb1.size
 simp at hz1
 have hbw1 : Below w.heap.size w w1:=bel
 clear hb1
 go_wp2_with fail
 refine (HN2.out q1 hq1 hd1 _).mono ?_
 rintro e w2 ⟨q2,rfl,hq2,hd2,hb2⟩
 have Z2:=(hb2.block _ (by omega)).trans Z0
 have hz2:=hb2.size
 have hbw2 : Below w.heap.size w w2:=hbw1.trans (hb2.mono hbw1.size)
 clear hb2 Z0
 rcases h3 with ⟨h3,rfl⟩ | ⟨h3,h4,rfl⟩
 · rw [h3] at HW1
   clear h3
   go_wp2_with fail
   refine (HW1.out q2 hq2 hd2 _).mono ?_
   rintro e w3 ⟨⟨z,rfl,hz⟩,hb3⟩
   obtain ⟨q3,rfl,hq3,hd3⟩:=hz _ rfl
   have Y3:=(hb3.block _ (by simp)).trans (heap_new_at w2 _ _ rfl)
   have Z3:=(hb3.block _ (by simp;omega)).trans ((Below.heap_alloc _ _ _ (by omega)).trans Z2)
   obtain ⟨y0,y1,y2,y3⟩:=four_of Y3
   obtain ⟨z0,z1,z2,z3⟩:=four_of Z3
   have zf : ∀ o,w3.frozen? ⟨w.heap.size,o,none⟩ = false:=fun o => by simp [World.frozen?,Z3]
   have HD3:=Lh hd3
   have hz3:=hb3.size
   simp at hz3
   clear hd3 hz hd1 hd2 Y3 Z3 Z2
   go_wp2
   refine bodyPost_ret (v:=.tuple #[.agg #[.int .i64 num,.int .i64 1,.int .i64 A,.int .i64 B],.int .i64 q3,.bool true]) (by simp [results,Tryz.results35,go_sem,z0,z1,z2,z3,zf,y0,y1,y2,y3]) rfl ⟨q3,rfl,hq3,HD3.out,?_⟩
   have hbw3 : Below w.heap.size w w3:=hbw2.trans (((Below.refl _ w2).alloc (Nat.le_refl _) _).trans (hb3.mono (by simp)) |>.mono hbw2.size)
   exact (((hbw3.setCell (p:=⟨w.heap.size,0,none⟩) (Nat.le_refl _) _).setCell (p:=⟨w.heap.size,1,none⟩) (Nat.le_refl _) _).setCell (p:=⟨w.heap.size,2,none⟩) (Nat.le_refl _) _).setCell (p:=⟨w.heap.size,3,none⟩) (Nat.le_refl _) _
 · rw [h3] at HW1
   rw [h4] at HW2
   clear h3 h4
   go_wp2_with fail
   refine (HW1.out q2 hq2 hd2 _).mono ?_
   rintro e w3 ⟨⟨z,rfl,_⟩,hb3⟩
   have hz3:=hb3.size
   simp at hz3
   have Y3:=(hb3.block _ (by simp)).trans (heap_new_at w2 _ _ rfl)
   have Z3:=(hb3.block _ (by simp;omega)).trans ((Below.heap_alloc _ _ _ (by omega)).trans Z2)
   have hbw3 : Below w.heap.size w w3:=hbw2.trans (((Below.refl _ w2).alloc (Nat.le_refl _) _).trans (hb3.mono (by simp)) |>.mono hbw2.size)
   clear hb3 Z2
   go_wp2_with fail
   refine (HW2.out q2 hq2 hd2 _).mono ?_
   rintro e w4 ⟨⟨z',rfl,hz'⟩,hb4⟩
   obtain ⟨q3,rfl,hq3,hd3⟩:=hz' _ rfl
   have hz4:=hb4.size
   have Y4:=(hb4.block _ (by omega)).trans Y3
   have Z4:=(hb4.block _ (by omega)).trans Z3
   obtain ⟨y0,y1,y2,y3⟩:=four_of Y4
   obtain ⟨z0,z1,z2,z3⟩:=four_of Z4
   have zf : ∀ o,w4.frozen? ⟨w.heap.size,o,none⟩ = false:=fun o => by simp [World.frozen?,Z4]
   have yf : ∀ o,w4.frozen? ⟨w2.heap.size,o,none⟩ = false:=fun o => by simp [World.frozen?,Y4]
   have ne1 : ¬ w.heap.size = w2.heap.size:=by omega
   have ne2 : ¬ w2.heap.size = w.heap.size:=by omega
   have HD3:=Lh hd3
   have hbw4 : Below w.heap.size w w4:=hbw3.trans (hb4.mono hbw3.size)
   clear hd3 hz' hd1 hd2 Y3 Z3 Y4 Z4 hb4
   go_wp2
   refine bodyPost_ret (v:=.tuple #[.agg #[.int .i64 num,.int .i64 0,.int .i64 A,.int .i64 B],.int .i64 q3,.bool true]) (by simp [results,Tryz.results35,go_sem,z0,z1,z2,z3,zf,y0,y1,y2,y3,yf,ne1,ne2]) rfl ⟨q3,rfl,hq3,HD3.out,?_⟩
   exact ((((hbw4.setCell (p:=⟨w2.heap.size,1,none⟩) (by show w.heap.size ≤ w2.heap.size;omega) _).setCell (p:=⟨w.heap.size,0,none⟩) (Nat.le_refl _) _).setCell (p:=⟨w.heap.size,1,none⟩) (Nat.le_refl _) _).setCell (p:=⟨w.heap.size,2,none⟩) (Nat.le_refl _) _).setCell (p:=⟨w.heap.size,3,none⟩) (Nat.le_refl _) _
theorem rget_no (S : Nat → Prop) (d : Nat) (w : World) (o : Ob) (p1 p2 : Option Addr) (n1 c1 n2 c2 : Nat) (key : L) (hO : ObjAt S (d + 1) w (objCells o.kind o.n o.g o.s (.slice p1 n1 c1) (.slice p2 n2 c2)) o) (hS : ∀ b, S b → b < w.heap.size) (h7 : o.kind = 7) (hn1 : o.keys.length = n1) (hl : n1 ≤ 8192) (hab : key ∉ o.keys) (hkl : ∀ x ∈ o.keys, x.length ≤ 1000000) :
   Calls Tryz.prog 72 #[.agg #[.int .i64 o.kind,.int .i64 o.n,.int .i64 o.g,.string ⟨o.s.toArray⟩,.slice p1 n1 c1,.slice p2 n2 c2],.string ⟨key.toArray⟩] w fun e w' => e = .returned (.tuple #[.agg #[.int .i64 0,.int .i64 0,.int .i64 0,.string ⟨#[]⟩,.slice none 0 0,.slice none 0 0],.bool false]) ∧ Below w.heap.size w w':=by
 obtain ⟨kv,dv,hcs,hK0,hR0⟩:=hO
 have hR : RowAt S d w (.slice p2 n2 c2) o.kids:=by
   simp [objCells] at hcs;rw [hcs.2];exact hR0
 have hK : KeysAt S w (.slice p1 n1 c1) o.keys:=by
   simp [objCells] at hcs;rw [hcs.1];exact hK0
 clear hR0 hcs hK0
 have HK:=Lh (And.intro hK (And.intro hS (And.intro hn1 hab)))
 clear hR hK hS hn1 hab hkl
 generalize o.kind = K at h7 ⊢
 subst h7
 go_enter Tryz.func72,Tryz.ntmps72
 go_wp2
 go_loopw [20] (fun i wr => ∃ k : Nat,k ≤ n1 ∧ i = .int .i64 k ∧ Below w.heap.size w wr ∧ w.heap.size + 2 ≤ wr.heap.size ∧ wr.heap[w.heap.size + 1]? = some (.cells #[.int .i64 0,.int .i64 0,.int .i64 0,.string ⟨#[]⟩,.slice none 0 0,.slice none 0 0] 26 (0,0))) (fun i _ => n1 - (intOf i).toNat)
 case atStart => exact ⟨0,Nat.zero_le _,rfl,bel,by simp,heap_new_at _ _ _ (by simp)⟩
 case round =>
   obtain ⟨k,hk,rfl,hbr,hzr,hG⟩:=hrel
   by_cases hlk : k < n1
   · have hKw : KeysAt S wr (.slice p1 n1 c1) o.keys:=HK.out.1.kept (fun b h => hbr.block b (HK.out.2.1 b h))
     obtain ⟨b1,f1,rfl⟩ : ∃ b off,p1 = some ⟨b,off,none⟩:=by
       rcases hKw with ⟨e,_⟩ | ⟨b,off,c,e,_⟩
       · have:=HK.out.2.2.1;rw [e] at this;simp at this;omega
       · cases e;exact ⟨_,_,rfl⟩
     obtain ⟨s1,g1⟩:=key_at hKw HK.out.2.2.1 k hlk
     have hkl : k < o.keys.length:=by rw [HK.out.2.2.1];exact hlk
     have hne : (o.keys.getD k [] == key) = false:=by
       rw [beq_eq_false_iff_ne]
       intro e
       exact HK.out.2.2.2 (by rw [← e];simp [List.getD,hkl])
     obtain ⟨x,hx⟩ : ∃ x,o.keys.getD k [] = x:=⟨_,rfl⟩
     rw [hx] at g1 hne
     clear hKw hx hkl
     go_wp2
     go_roundw
     case rel => exact ⟨k + 1,by omega,by go_num,hbr,hzr,hG⟩
     case measure => simp [intOf];omega
   · obtain ⟨b0,b1,b2,b3,b4,b5,bf⟩:=six_of hG
     go_wp2
     refine bodyPost_ret (v:=.tuple #[.agg #[.int .i64 0,.int .i64 0,.int .i64 0,.string ⟨#[]⟩,.slice none 0 0,.slice none 0 0],.bool false]) (by simp [results,Tryz.results72,go_sem,b0,b1,b2,b3,b4,b5,bf]) rfl ⟨rfl,bel⟩
theorem kleads (S : Nat → Prop) (d : Nat) (w : World) (o : Ob) (p1 p2 : Option Addr) (n1 c1 n2 c2 : Nat) (key : L) (hO : ObjAt S (d + 1) w (objCells o.kind o.n o.g o.s (.slice p1 n1 c1) (.slice p2 n2 c2)) o) (hS : ∀ b, S b → b < w.heap.size) (h7 : o.kind = 7) (hn1 : o.keys.length = n1) (hl : n1 ≤ 8192) (hab : key ∉ o.keys) (hkl : ∀ x ∈ o.keys, x.length ≤ 1000000) :
   Calls Tryz.prog 38 #[.agg #[.int .i64 o.kind,.int .i64 o.n,.int .i64 o.g,.string ⟨o.s.toArray⟩,.slice p1 n1 c1,.slice p2 n2 c2],.string ⟨key.toArray⟩] w fun e w' => e = .returned (.tuple #[.int .i64 (-1),.bool true]) ∧ Below w.heap.size w w':=by
 have HG:=Lh (fun (W : World) (hW : Below w.heap.size w W) => rget_no S d W o p1 p2 n1 c1 n2 c2 key (hO.kept (fun b h => hW.block b (hS b h)) _) (fun b h => Nat.lt_of_lt_of_le (hS b h) hW.size) h7 hn1 hl hab hkl)
 clear hO hS h7 hn1 hl hab hkl
 go_enter Tryz.func38,Tryz.ntmps38
 go_wp2_with fail
 refine (HG.out _ bel).mono ?_
 rintro e w1 ⟨rfl,hb1⟩
 have hz1:=hb1.size
 simp at hz1
 go_wp2
 go_ret2
 exact ⟨rfl,bel⟩
structure Ov where
 k : Int
 n : Int
 g : Int
 s : ByteArray
 p1 : Option Addr
 n1 : Nat
 c1 : Nat
 p2 : Option Addr
 n2 : Nat
 c2 : Nat
def encOv : Enc Ov where
 k:=6
 cells x:=[.int .i64 x.k,.int .i64 x.n,.int .i64 x.g,.string x.s,.slice x.p1 x.n1 x.c1,.slice x.p2 x.n2 x.c2]
 len _:=rfl
 one x u hu:=by
   simp only [List.mem_cons,List.not_mem_nil,or_false] at hu
   rcases hu with rfl | rfl | rfl | rfl | rfl | rfl <;> rfl
def encK : Enc L where
 k:=1
 cells x:=[.string ⟨x.toArray⟩]
 len _:=rfl
 one x u hu:=by simp at hu;subst hu;rfl
theorem Tryz.infoKs : (Tryz.prog.info? 9).map (fun i => (i.zero,i.size,i.bytes)) = some (some (.string ⟨#[]⟩),1,16):=by kernel_rfl
theorem Tryz.infoOs : (Tryz.prog.info? 26).map (fun i => (i.zero,i.size,i.bytes)) = some (some (.agg #[.int .i64 0,.int .i64 0,.int .i64 0,.string ⟨#[]⟩,.slice none 0 0,.slice none 0 0]),6,88):=by kernel_rfl
def OvsAt (S : Nat → Prop) (d : Nat) (w : World) (vs : List Ov) (os : List Ob) : Prop:=vs.length = os.length ∧ ∀ (i : Nat) (v : Ov) (o : Ob),vs[i]? = some v → os[i]? = some o → ObjAt S d w (encOv.cells v) o
theorem OvsAt.nil (S : Nat → Prop) (d : Nat) (w : World) : OvsAt S d w [] []:=⟨rfl,fun i v o h => by simp at h⟩
theorem OvsAt.kept {S : Nat → Prop} {d : Nat} {w w' : World} {vs : List Ov} {os : List Ob} (h : OvsAt S d w vs os) (hk : ∀ b,S b → w'.heap[b]? = w.heap[b]?) : OvsAt S d w' vs os :=
 ⟨h.1,fun i v o hv ho => (h.2 i v o hv ho).kept hk d⟩
theorem OvsAt.push {S : Nat → Prop} {d : Nat} {w : World} {vs : List Ov} {os : List Ob} {v : Ov} {o : Ob} (h : OvsAt S d w vs os) (hv : ObjAt S d w (encOv.cells v) o) : OvsAt S d w (vs ++ [v]) (os ++ [o]):=by
 refine ⟨by simp [h.1],fun i v' o' h1 h2 => ?_⟩
 by_cases hi : i < vs.length
 · rw [List.getElem?_append_left hi] at h1
   rw [List.getElem?_append_left (by rw [← h.1];exact hi)] at h2
   exact h.2 i v' o' h1 h2
 · rw [List.getElem?_append_right (by omega)] at h1
   rw [List.getElem?_append_right (by rw [← h.1];omega)] at h2
   have hz : i - vs.length = 0:=by
     have:=(List.getElem?_eq_some_iff.1 h1).1
     simp at this;omega
   rw [hz] at h1
   rw [← h.1,hz] at h2
   cases h1
   cases h2
   exact hv
theorem row_addr {α : Type} {E : Enc α} {t : TypeId} {w : World} {B : Nat} {v : Value} {xs : List α} (h : rownS E t w B v xs) (hne : xs ≠ []) : ∃ g c, v = .slice (some ⟨g, 0, none⟩) xs.length c ∧ B ≤ g ∧ g < w.heap.size ∧
   ∀ j (hj : j < xs.length) i u,(E.cells xs[j])[i]? = some u → w.cell? ⟨g,j * E.k + i,none⟩ = some u:=by
 have ha:=h.arg
 rcases h with ⟨h0,⟨rfl,h1⟩ | ⟨g,cap,cur,rfl,h2,h3,_⟩⟩
 · exact absurd (List.eq_nil_of_length_eq_zero h1) hne
 · refine ⟨g,cap,rfl,h2,(Array.getElem?_eq_some_iff.1 h3).1,fun j hj i u hu => ?_⟩
   obtain ⟨p,c,e,hA⟩:=ha
   cases e
   obtain ⟨g',off,e1,_,hc⟩:=hA j hj
   cases e1
   have:=hc i u hu
   rw [Nat.zero_add] at this
   exact this
theorem keysAt_row {w : World} {B : Nat} {v : Value} {ks : List L} (h : rownS encK 9 w B v ks) : KeysAt (fun b => B ≤ b) w v ks:=by
 by_cases hne : ks = []
 · subst hne
   obtain ⟨p,c,rfl⟩:=rown_slice h
   exact .inl ⟨rfl,_,_,rfl⟩
 · obtain ⟨g,c,rfl,hB,_,hc⟩:=row_addr h hne
   refine .inr ⟨g,0,c,rfl,hB,fun i hi => ?_⟩
   have:=hc i hi 0 _ rfl
   rw [show i * encK.k + 0 = 0 + i by show i * 1 + 0 = 0 + i;omega] at this
   exact this
theorem obj_rows {S : Nat → Prop} {d : Nat} {w : World} {B : Nat} {kv dv : Value} {ks : List L} {vs : List Ov} {os : List Ob} {K N G : Int} {s : L} (h1 : rownS encK 9 w B kv ks) (h2 : rownS encOv 26 w B dv vs) (h3 : OvsAt S d w vs os) :
   ObjAt (fun b => B ≤ b ∨ S b) (d + 1) w (objCells K N G s kv dv) (.mk K N G s ks os):=by
 refine ⟨kv,dv,rfl,?_,?_⟩
 · rcases keysAt_row h1 with h | ⟨b,o,c,e,hb,hc⟩
   · exact .inl h
   · exact .inr ⟨b,o,c,e,.inl hb,hc⟩
 · by_cases hne : vs = []
   · subst hne
     have h0 : os = []:=List.eq_nil_of_length_eq_zero h3.1.symm
     obtain ⟨p,c,rfl⟩:=rown_slice h2
     exact .inl ⟨h0,_,_,rfl⟩
   · obtain ⟨g,c,rfl,hB,_,hc⟩:=row_addr h2 hne
     refine .inr ⟨g,0,c,by rw [h3.1];rfl,.inl hB,fun i hi => ?_⟩
     have hi' : i < vs.length:=by rw [h3.1];exact hi
     have hO:=h3.2 i vs[i] os[i] (List.getElem?_eq_getElem hi') (List.getElem?_eq_getElem hi)
     refine ⟨encOv.cells vs[i],rfl,fun j hj => ?_,hO.weaken (fun b h _ => .inr h) d⟩
     have:=hc i hi' j _ (List.getElem?_eq_getElem hj)
     rw [show 0 + 6 * i + j = i * encOv.k + j by show 0 + 6 * i + j = i * 6 + j;omega]
     exact this
theorem row_other {α : Type} {E : Enc α} {t t2 : TypeId} {w w' : World} {B s2 m : Nat} {v v2 : Value} {xs : List α} {ys : List Value} (h : rownS E t w B v xs) (h2 : w.ownsRow B t2 s2 v2 m ys) (ht : t ≠ t2) (hg : w.grownBy w' v2.ownBlock) : rownS E t w' B v xs:=by
 refine World.ownsRow.kept h hg ?_
 have h1 : w.ownsRow B t E.k v xs.length (E.row xs):=h
 rcases h1.2 with ⟨rfl,_⟩ | ⟨g,cap,cur,rfl,_,hg1,_⟩
 · exact .inl rfl
 · rcases h2.2 with ⟨rfl,_⟩ | ⟨g2,cap2,cur2,rfl,_,hg2,_⟩
   · exact .inr (by simp [Value.ownBlock])
   · refine .inr fun e => ?_
     simp [Value.ownBlock] at e
     subst e
     rw [hg1] at hg2
     simp at hg2
     exact ht hg2.2
def pickK (f : L → Bool) (o : Ob) (k : Nat) : List (L × Ob):=((o.keys.zip o.kids).take k).filter fun p => f p.1
theorem pickK_succ {f : L → Bool} {o : Ob} {k : Nat} (h1 : k < o.keys.length) (h2 : k < o.kids.length) : pickK f o (k + 1) = pickK f o k ++ (if f o.keys[k] then [(o.keys[k],o.kids[k])] else []):=by
 unfold pickK
 rw [List.take_succ_eq_append_getElem (by simp;omega),List.filter_append]
 simp only [List.getElem_zip,List.filter_cons,List.filter_nil]
theorem pickK_len (f : L → Bool) (o : Ob) (k : Nat) : (pickK f o k).length ≤ k:=by
 unfold pickK
 exact Nat.le_trans (List.length_filter_le _ _) (by simp;omega)
theorem rwithout (S : Nat → Prop) (d : Nat) (w : World) (o : Ob) (p1 p2 : Option Addr) (n1 c1 n2 c2 : Nat) (key : L) (hO : ObjAt S (d + 1) w (objCells o.kind o.n o.g o.s (.slice p1 n1 c1) (.slice p2 n2 c2)) o) (hS : ∀ b, S b → b < w.heap.size) (hn1 : o.keys.length = n1) (hn2 : o.kids.length = n1) (hn2' : n2 = n1) (hl : n1 ≤ 8192) :
   Calls Tryz.prog 61 #[.agg #[.int .i64 o.kind,.int .i64 o.n,.int .i64 o.g,.string ⟨o.s.toArray⟩,.slice p1 n1 c1,.slice p2 n2 c2],.string ⟨key.toArray⟩] w fun e w' => ∃ q1 e1 m1 q2 e2 m2,e = .returned (.agg #[.int .i64 o.kind,.int .i64 o.n,.int .i64 o.g,.string ⟨o.s.toArray⟩,.slice q1 e1 m1,.slice q2 e2 m2]) ∧
     ObjAt (fun b => w.heap.size ≤ b ∨ S b) (d + 1) w' (objCells o.kind o.n o.g o.s (.slice q1 e1 m1) (.slice q2 e2 m2)) (dropO o key) ∧ Below w.heap.size w w':=by
 subst hn2'
 have HD:=Lh (show ∀ kv dv w',ObjAt (fun b => w.heap.size ≤ b ∨ S b) (d + 1) w' (objCells o.kind o.n o.g o.s kv dv) (.mk o.kind o.n o.g o.s ((pickK (fun x => !(x == key)) o n2).map (·.1)) ((pickK (fun x => !(x == key)) o n2).map (·.2))) → ObjAt (fun b => w.heap.size ≤ b ∨ S b) (d + 1) w' (objCells o.kind o.n o.g o.s kv dv) (dropO o key) from by
   intro kv dv w' h
   unfold pickK at h
   rw [List.take_of_length_le (by simp;omega)] at h
   exact h)
 obtain ⟨kv,dv,hcs,hK0,hR0⟩:=hO
 have hR : RowAt S d w (.slice p2 n2 c2) o.kids:=by
   simp [objCells] at hcs;rw [hcs.2];exact hR0
 have hK : KeysAt S w (.slice p1 n2 c1) o.keys:=by
   simp [objCells] at hcs;rw [hcs.1];exact hK0
 clear hR0 hcs hK0
 have HK:=Lh (And.intro hK (And.intro hR (And.intro hS (And.intro hn1 hn2))))
 obtain ⟨B,hB⟩ : ∃ B,w.heap.size + 2 = B:=⟨_,rfl⟩
 clear hR hK hS hn1 hn2
 go_enter Tryz.func61,Tryz.ntmps61
 go_wp2
 go_loopw [5,6,11] (fun kv lv i wr => ∃ (k : Nat) (vs : List Ov),k ≤ n2 ∧ i = .int .i64 k ∧ rownS encK 9 wr B kv ((pickK (fun x => !(x == key)) o k).map (·.1)) ∧ rownS encOv 26 wr B lv vs ∧ Hid (OvsAt S d w vs ((pickK (fun x => !(x == key)) o k).map (·.2))) ∧ Below w.heap.size w wr ∧ B ≤ wr.heap.size ∧
   wr.heap[w.heap.size]? = some (.cells #[.int .i64 o.kind,.int .i64 o.n,.int .i64 o.g,.string ⟨o.s.toArray⟩,.slice p1 n2 c1,.slice p2 n2 c2] 26 (0,0)) ∧ wr.heap[w.heap.size + 1]? = some (.cells #[.int .i64 0,.int .i64 0,.int .i64 0,.string ⟨#[]⟩,.slice none 0 0,.slice none 0 0] 26 (0,0))) (fun _ _ i _ => n2 - (intOf i).toNat)
 case atStart => exact ⟨0,[],Nat.zero_le _,rfl,rownS_nil _ _,rownS_nil _ _,Lh (OvsAt.nil _ _ _),bel,by simp;omega,(Below.heap_alloc _ _ _ (by simp)).trans (heap_new_at _ _ _ rfl),heap_new_at _ _ _ (by simp)⟩
 case round =>
   obtain ⟨k,vs,hk,rfl,hr1,hr2,HV,hbr,hzr,hb0,hb1⟩:=hrel
   obtain ⟨kp,kc,rfl⟩:=rown_slice hr1
   obtain ⟨lp,lc,rfl⟩:=rown_slice hr2
   obtain ⟨x0,x1,x2,x3,x4,x5,xf⟩:=six_of hb0
   obtain ⟨z0,z1,z2,z3,z4,z5,zf⟩:=six_of hb1
   by_cases hlk : k < n2
   · have hkl : k < o.keys.length:=by rw [HK.out.2.2.2.1];exact hlk
     have hkd : k < o.kids.length:=by rw [HK.out.2.2.2.2];exact hlk
     have hKw : KeysAt S wr (.slice p1 n2 c1) o.keys:=HK.out.1.kept (fun b h => hbr.block b (HK.out.2.2.1 b h))
     obtain ⟨b1,f1,rfl⟩ : ∃ b off,p1 = some ⟨b,off,none⟩:=by
       rcases hKw with ⟨e,_⟩ | ⟨b,off,c,e,_⟩
       · rw [e] at hkl;exact absurd hkl (Nat.not_lt_zero _)
       · cases e;exact ⟨_,_,rfl⟩
     obtain ⟨s1,g1⟩:=key_at hKw HK.out.2.2.2.1 k hlk
     have hRw : RowAt S d wr (.slice p2 n2 c2) o.kids:=HK.out.2.1.kept (fun b h => hbr.block b (HK.out.2.2.1 b h))
     obtain ⟨b2,f2,rfl⟩ : ∃ b off,p2 = some ⟨b,off,none⟩:=by
       rcases hRw with ⟨e,_⟩ | ⟨b,off,c,e,_⟩
       · rw [e] at hkd;exact absurd hkd (Nat.not_lt_zero _)
       · cases e;exact ⟨_,_,rfl⟩
     obtain ⟨y,y1,t1,u1,y2,t2,u2,hy,hym,s2,O1,r0,r1,r2,r3,r4,r5⟩:=row_kid hRw HK.out.2.2.2.2 k hlk
     obtain ⟨x,hx⟩ : ∃ x,o.keys.getD k [] = x:=⟨_,rfl⟩
     have hxk : o.keys[k] = x:=by rw [← hx];simp [List.getD,hkl]
     have hyk : o.kids[k] = y:=by rw [← hy];simp [List.getD,hkd]
     have hsu:=pickK_succ (f:=fun x => !(x == key)) hkl hkd
     rw [hxk,hyk] at hsu
     rw [hx] at g1
     obtain ⟨PK,hPK⟩ : ∃ PK,pickK (fun x => !(x == key)) o k = PK:=⟨_,rfl⟩
     have hpl:=pickK_len (fun x => !(x == key)) o k
     rw [hPK] at hsu hr1 HV hpl
     have hvl : vs.length = PK.length:=by have:=HV.out.1;simpa using this
     obtain ⟨KS,hKS⟩ : ∃ KS,PK.map (·.1) = KS:=⟨_,rfl⟩
     have hksl : KS.length ≤ 8192:=by rw [← hKS];simp;omega
     rw [hKS] at hr1
     rw [hPK,hKS]
     have v1 : (0 : Int) ≤ k:=by omega
     have v2 : (k : Int) < n2:=by omega
     cases hxe : (x == key)
     · rw [hxe] at hsu
       have HSU:=Lh hsu
       have e1 : (x != key) = true:=by simpa using hxe
       have HKS:=Lh (And.intro hPK hKS)
       have HO1:=Lh O1
       have hwB : w.heap.size + 1 < B:=by omega
       have HR2:=Lh hr2
       have hb2lt : b2 < w.heap.size:=HK.out.2.2.1 b2 s2
       have HVL:=Lh hvl
       have hvl2 : vs.length ≤ 8192:=by omega
       clear hKw hRw hy hym hx hxk hyk hsu hkl hkd hPK hKS O1 hvl
       go_wp2_with (at_builtin;first
         | (refine rappend (E:=encK) rfl _ _ rfl Tryz.underlying23 Tryz.infoKs rfl (by decide) (by decide) B _ KS x hr1 rfl rfl (by omega) hzr ?_;intro p3 q3 w3 hr3 hb3 hz3 hg3;have hb0':=(hb3.block _ (by omega)).trans hb0;have hb1':=(hb3.block _ (by omega)).trans hb1;have kk:=fun o => World.cell?_of_block (a:=⟨b2,o,none⟩) (hb3.block b2 (by omega));have l0:=(kk _).trans r0;have l1:=(kk _).trans r1;have l2:=(kk _).trans r2;have l3:=(kk _).trans r3;have l4:=(kk _).trans r4;have l5:=(kk _).trans r5;clear kk;obtain ⟨m0,m1,m2,m3,m4,m5,mf⟩:=six_of hb0';have HR3:=Lh (row_other (HR2.out.below ((Below.refl _ wr).alloc (Nat.le_refl _) (.cells (encK.cells x).toArray 9))) (World.ownsRow.alloc hr1 _) (by decide) hg3);have HZ3:=Lh (show B ≤ w3.heap.size by omega))
         | (refine rappend (E:=encOv) rfl _ _ rfl Tryz.underlying24 Tryz.infoOs rfl (by decide) (by decide) B _ vs ⟨y.kind,y.n,y.g,⟨y.s.toArray⟩,y1,t1,u1,y2,t2,u2⟩ HR3.out rfl rfl (by omega) HZ3.out ?_;intro p4 q4 w4 hr4 hb4 hz4 hg4))
       go_roundw
       case rel =>
         have hrK:=row_other (hr3.below ((Below.refl _ w3).alloc (Nat.le_refl _) (.cells (encOv.cells ⟨y.kind,y.n,y.g,⟨y.s.toArray⟩,y1,t1,u1,y2,t2,u2⟩).toArray 26))) (World.ownsRow.alloc HR3.out _) (by decide) hg4
         refine ⟨k + 1,vs ++ [⟨y.kind,y.n,y.g,⟨y.s.toArray⟩,y1,t1,u1,y2,t2,u2⟩],by omega,by go_num,?_,hr4,Lh ?_,hbr.trans ((hb3.mono (by omega)).trans (hb4.mono (by omega))),by omega,(hb4.block _ (by omega)).trans hb0',(hb4.block _ (by omega)).trans hb1'⟩
         · rw [HSU.out]
           simp only [Bool.not_false,if_true,List.map_append,List.map_cons,List.map_nil]
           rw [HKS.out.2]
           exact hrK
         · rw [HSU.out]
           simp only [Bool.not_false,if_true,List.map_append,List.map_cons,List.map_nil]
           exact HV.out.push (HO1.out.kept (w':=w) (fun b h => (hbr.block b (HK.out.2.2.1 b h)).symm) d)
       case measure => simp [intOf];omega
     · rw [hxe] at hsu
       have HSU:=Lh hsu
       have e1 : (x != key) = false:=by simpa using hxe
       have HKS:=Lh (And.intro hPK hKS)
       clear hKw hRw hy hym hx hxk hyk hsu hkl hkd hPK hKS O1 hvl
       go_wp2
       go_roundw
       case rel =>
         refine ⟨k + 1,vs,by omega,by go_num,?_,hr2,Lh ?_,hbr,hzr,hb0,hb1⟩
         · rw [HSU.out]
           simp only [Bool.not_true,Bool.false_eq_true,if_false,List.append_nil]
           rw [HKS.out.2]
           exact hr1
         · rw [HSU.out]
           simp only [Bool.not_true,Bool.false_eq_true,if_false,List.append_nil]
           exact HV.out
       case measure => simp [intOf];omega
   · have hkn : k = n2:=by omega
     subst hkn
     have hO2:=obj_rows (K:=o.kind) (N:=o.n) (G:=o.g) (s:=o.s) hr1 hr2 (HV.out.kept (fun b h => hbr.block b (HK.out.2.2.1 b h)))
     have HO2:=Lh hO2
     obtain ⟨e1,he1⟩ : ∃ e1,((pickK (fun x => !(x == key)) o k).map (·.1)).length = e1:=⟨_,rfl⟩
     obtain ⟨e2,he2⟩ : ∃ e2,vs.length = e2:=⟨_,rfl⟩
     rw [he1] at HO2 ⊢
     rw [he2] at HO2 ⊢
     clear hr1 hr2 hO2 he1 he2
     go_wp2
     refine bodyPost_ret (v:=.agg #[.int .i64 o.kind,.int .i64 o.n,.int .i64 o.g,.string ⟨o.s.toArray⟩,.slice kp e1 kc,.slice lp e2 lc]) (by simp [results,Tryz.results61,go_sem,x0,x1,x2,x3,x4,x5,xf,z0,z1,z2,z3,z4,z5,zf]) rfl ⟨kp,e1,kc,lp,e2,lc,rfl,?_,bel⟩
     refine HD.out _ _ _ (((HO2.out.kept (w':=_) ?_ (d + 1)).weaken (fun b h _ => h.elim (fun h => .inl (by omega)) .inr) (d + 1)))
     intro b hb
     have hb2 : b ≠ w.heap.size ∧ b ≠ w.heap.size + 1:=by
       rcases hb with hb | hb
       · omega
       · have:=HK.out.2.2.1 b hb;omega
     iterate 6 (refine (Below.heap_setCell _ _ _ _ hb2.2).trans ?_)
     iterate 2 (refine (Below.heap_setCell _ _ _ _ hb2.1).trans ?_)
     rfl
end Go.Proofs.YtfgdhcemidlnfaaGreatDoor
