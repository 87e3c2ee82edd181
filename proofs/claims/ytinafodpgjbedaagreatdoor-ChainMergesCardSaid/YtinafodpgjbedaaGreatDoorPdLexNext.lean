/- Parts of the proof: LexNext. -/
import Derived.Test.YtinafodpgjbedaaGreatDoorPdc
set_option linter.all false
set_option maxRecDepth 100000
set_option maxHeartbeats 8000000
namespace Go.Proofs.YtinafodpgjbedaaGreatDoor
open Go.RowKit Fo
theorem tok_bad {f : FuncId} {args : Array Value} {w : World} {a : Nat} {X : Res Tok} {k : Int} (h : X = .bad k)
   (hc : Calls Tryz.prog f args w fun e w' => e = .returned (tokR a X) ∧ Below w.heap.size w w') :
   Calls Tryz.prog f args w fun e w' => e = .returned (.tuple #[.agg #[.int .i64 0,.int .i64 0,.int .i64 0,.int .i64 0,.string ⟨#[]⟩],.int .i64 k]) ∧ Below w.heap.size w w':=by
 rw [h] at hc;exact hc
theorem tok_good {f : FuncId} {args : Array Value} {w : World} {a : Nat} {X : Res Tok} {t : Tok} (h : X = .good t)
   (hc : Calls Tryz.prog f args w fun e w' => e = .returned (tokR a X) ∧ Below w.heap.size w w') :
   Calls Tryz.prog f args w fun e w' => e = .returned (.tuple #[.agg #[.int .i64 t.kind,.int .i64 a,.int .i64 (a + t.len : Nat),.int .i64 t.n,.string ⟨t.s.toArray⟩],.int .i64 0]) ∧ Below w.heap.size w w':=by
 rw [h] at hc;exact hc
theorem skip_as (s : ByteArray) (a p : Nat) (h : a + skipN false (s.data.toList.drop a) = p) (ha : a ≤ s.size) (hs : s.size ≤ maxLen) (w : World) :
   Calls Tryz.prog 122 #[.string s,.int .i64 a] w fun e w' => e = .returned (.int .i64 p) ∧ w' = w:=by
 rw [← h];exact skip_in s a ha hs w
theorem double_at (s : ByteArray) (p : Nat) (b : Bool) (hp : p < s.size) (hs : s.size ≤ maxLen) (hb : ((s.data.toList.drop (p + 1)).head? == some s[p]) = b) (w : World) :
   Calls Tryz.prog 29 #[.string s,.string (s.extract p (p + 1)),.int .i64 ((p : Int) + 1)] w fun e w' => e = .returned (.bool b) ∧ w' = w:=by
 refine begins_as s _ (p + 1) b ?_ (by omega) hs w
 rw [ext1 s p hp,← hb]
 cases s.data.toList.drop (p + 1) with
 | nil => simp [Lib.hasPrefix]
 | cons d l => simp [Lib.hasPrefix,List.isPrefixOf,Bool.beq_comm]
theorem ext2 (s : ByteArray) (p : Nat) (hp : p + 1 < s.size) : s.extract p (p + 2) = ⟨#[s[p],s[p + 1]]⟩:=by
 apply ByteArray.ext_iff.2
 apply Array.toList_inj.1
 rw [Lib.extract_data,drop_get s p (by omega),drop_get s (p + 1) hp]
 simp
theorem dbl_lt {s : ByteArray} {p : Nat} {c : UInt8} (h : (s.data.toList.drop (p + 1)).head? = some c) : ∃ h : p + 1 < s.size,s[p + 1] = c:=by
 have hk : p + 1 < s.size:=by
   apply Classical.byContradiction;intro h2
   rw [List.drop_eq_nil_of_le (by have : s.data.toList.length = s.size:=rfl;omega)] at h;simp at h
 refine ⟨hk,?_⟩
 rw [drop_get s _ hk] at h
 simpa using h
theorem next_in (s : ByteArray) (a : Nat) (ha : a ≤ s.size) (hs : s.size ≤ 140737488355327) (m : Int) (w : World) (hm : MaxW w m) :
   Calls Tryz.prog 79 #[.string s,.int .i64 a] w fun e w' => e = .returned (tokR (a + (nextT (s.data.toList.drop a)).1) (nextT (s.data.toList.drop a)).2) ∧ Below w.heap.size w w':=by
 have hmx : Hid (s.size ≤ maxLen):=by unfold maxLen;show _ ≤ _;omega
 have hz0 : decide ((a : Int) < 0) = false:=by simp
 have hz1 : decide (s.size < a) = false:=by simp;omega
 unfold nextT
 obtain ⟨p,hp0⟩ : ∃ p,a + skipN false (s.data.toList.drop a) = p:=⟨_,rfl⟩
 have hple : p ≤ s.size:=by have:=skipN_le false (s.data.toList.drop a);simp at this;omega
 rw [List.drop_drop]
 simp only [hp0]
 have HP:=Lh hp0
 clear hp0
 by_cases hp : p < s.size
 · have hne : s.data.toList.drop p ≠ []:=by rw [drop_get s p hp];simp
   rw [if_neg hne]
   obtain ⟨X,hX⟩ : ∃ X,tokT (s.data.toList.drop p) = X:=⟨_,rfl⟩
   rw [hX]
   have hX0:=Lh hX
   rw [drop_get s p hp] at hX
   unfold tokT at hX
   have hpe : ((p : Int) == (s.size : Int)) = false:=by simp;omega
   have hm2 : MaxW ((w.alloc (.cells #[.int .i64 0,.int .i64 0,.int .i64 0,.int .i64 0,.string ⟨#[]⟩] 96)).alloc (.cells #[.string s,.int .i64 p] 183)) m:=hm.below bel
   clear hne
   by_cases h91 : s[p] = 91
   · have t91 : ((s[p].toNat : Int) == 91) = true:=eq_yes (n:=91) (by decide) h91
     have HX:=Lh (show X = .good ⟨6,1,0,[s[p]]⟩ by rw [← hX,h91];rfl)
     have HE:=Lh (ext1 s p hp)
     obtain ⟨b,hd⟩ : ∃ b,((s.data.toList.drop (p + 1)).head? == some s[p]) = b:=⟨_,rfl⟩
     have HD:=Lh hd
     clear hX hd h91
     go_enter Tryz.func79,Tryz.ntmps79
     go_wp2_with (go_at_call 122;refine (skip_as _ _ p HP.out ha hmx.out _).mono ?_;rintro e w' ⟨rfl,rfl⟩)
     go_quiet ((go_at_call 29;exact Calls.quiet_of_same (double_at s p _ hp hmx.out HD.out _)))
     go_wp2_with fail
     refine (mark_in s p 1 (by omega) hmx.out _).mono ?_
     rintro e wz ⟨rfl,hb⟩
     obtain ⟨hcz,hfz⟩:=bcell hb
     have hsz : w.heap.size + 2 ≤ wz.heap.size:=by have:=hb.size;simp at this;omega
     go_wp2
     refine bodyPost_ret (v:=.tuple #[.agg #[.int .i64 6,.int .i64 p,.int .i64 (p + 1),.int .i64 0,.string (s.extract p (p + 1))],.int .i64 0]) (by simp [results,Tryz.results79,go_sem,hcz,hfz,show w.heap.size < w.heap.size + 1 + 1 by omega]) rfl ⟨by rw [HX.out,HE.out];simp [tokR],bel⟩
   · have t91 : ((s[p].toNat : Int) == 91) = false:=eq_no (n:=91) (by decide) h91
     have g91:=h91
     clear h91
     by_cases h93 : s[p] = 93
     · have t93 : ((s[p].toNat : Int) == 93) = true:=eq_yes (n:=93) (by decide) h93
       have HX:=Lh (show X = .good ⟨6,1,0,[s[p]]⟩ by rw [← hX,h93];rfl)
       have HE:=Lh (ext1 s p hp)
       obtain ⟨b,hd⟩ : ∃ b,((s.data.toList.drop (p + 1)).head? == some s[p]) = b:=⟨_,rfl⟩
       have HD:=Lh hd
       clear hX hd h93 g91
       go_enter Tryz.func79,Tryz.ntmps79
       go_wp2_with (go_at_call 122;refine (skip_as _ _ p HP.out ha hmx.out _).mono ?_;rintro e w' ⟨rfl,rfl⟩)
       go_quiet ((go_at_call 29;exact Calls.quiet_of_same (double_at s p _ hp hmx.out HD.out _)))
       go_wp2_with fail
       refine (mark_in s p 1 (by omega) hmx.out _).mono ?_
       rintro e wz ⟨rfl,hb⟩
       obtain ⟨hcz,hfz⟩:=bcell hb
       have hsz : w.heap.size + 2 ≤ wz.heap.size:=by have:=hb.size;simp at this;omega
       go_wp2
       refine bodyPost_ret (v:=.tuple #[.agg #[.int .i64 6,.int .i64 p,.int .i64 (p + 1),.int .i64 0,.string (s.extract p (p + 1))],.int .i64 0]) (by simp [results,Tryz.results79,go_sem,hcz,hfz,show w.heap.size < w.heap.size + 1 + 1 by omega]) rfl ⟨by rw [HX.out,HE.out];simp [tokR],bel⟩
     · have t93 : ((s[p].toNat : Int) == 93) = false:=eq_no (n:=93) (by decide) h93
       have g93:=h93
       clear h93
       by_cases h123 : s[p] = 123
       · have t123 : ((s[p].toNat : Int) == 123) = true:=eq_yes (n:=123) (by decide) h123
         have HX:=Lh (show X = .good ⟨6,1,0,[s[p]]⟩ by rw [← hX,h123];rfl)
         have HE:=Lh (ext1 s p hp)
         obtain ⟨b,hd⟩ : ∃ b,((s.data.toList.drop (p + 1)).head? == some s[p]) = b:=⟨_,rfl⟩
         have HD:=Lh hd
         clear hX hd h123 g91 g93
         go_enter Tryz.func79,Tryz.ntmps79
         go_wp2_with (go_at_call 122;refine (skip_as _ _ p HP.out ha hmx.out _).mono ?_;rintro e w' ⟨rfl,rfl⟩)
         go_quiet ((go_at_call 29;exact Calls.quiet_of_same (double_at s p _ hp hmx.out HD.out _)))
         go_wp2_with fail
         refine (mark_in s p 1 (by omega) hmx.out _).mono ?_
         rintro e wz ⟨rfl,hb⟩
         obtain ⟨hcz,hfz⟩:=bcell hb
         have hsz : w.heap.size + 2 ≤ wz.heap.size:=by have:=hb.size;simp at this;omega
         go_wp2
         refine bodyPost_ret (v:=.tuple #[.agg #[.int .i64 6,.int .i64 p,.int .i64 (p + 1),.int .i64 0,.string (s.extract p (p + 1))],.int .i64 0]) (by simp [results,Tryz.results79,go_sem,hcz,hfz,show w.heap.size < w.heap.size + 1 + 1 by omega]) rfl ⟨by rw [HX.out,HE.out];simp [tokR],bel⟩
       · have t123 : ((s[p].toNat : Int) == 123) = false:=eq_no (n:=123) (by decide) h123
         have g123:=h123
         clear h123
         by_cases h125 : s[p] = 125
         · have t125 : ((s[p].toNat : Int) == 125) = true:=eq_yes (n:=125) (by decide) h125
           have HX:=Lh (show X = .good ⟨6,1,0,[s[p]]⟩ by rw [← hX,h125];rfl)
           have HE:=Lh (ext1 s p hp)
           obtain ⟨b,hd⟩ : ∃ b,((s.data.toList.drop (p + 1)).head? == some s[p]) = b:=⟨_,rfl⟩
           have HD:=Lh hd
           clear hX hd h125 g91 g93 g123
           go_enter Tryz.func79,Tryz.ntmps79
           go_wp2_with (go_at_call 122;refine (skip_as _ _ p HP.out ha hmx.out _).mono ?_;rintro e w' ⟨rfl,rfl⟩)
           go_quiet ((go_at_call 29;exact Calls.quiet_of_same (double_at s p _ hp hmx.out HD.out _)))
           go_wp2_with fail
           refine (mark_in s p 1 (by omega) hmx.out _).mono ?_
           rintro e wz ⟨rfl,hb⟩
           obtain ⟨hcz,hfz⟩:=bcell hb
           have hsz : w.heap.size + 2 ≤ wz.heap.size:=by have:=hb.size;simp at this;omega
           go_wp2
           refine bodyPost_ret (v:=.tuple #[.agg #[.int .i64 6,.int .i64 p,.int .i64 (p + 1),.int .i64 0,.string (s.extract p (p + 1))],.int .i64 0]) (by simp [results,Tryz.results79,go_sem,hcz,hfz,show w.heap.size < w.heap.size + 1 + 1 by omega]) rfl ⟨by rw [HX.out,HE.out];simp [tokR],bel⟩
         · have t125 : ((s[p].toNat : Int) == 125) = false:=eq_no (n:=125) (by decide) h125
           have g125:=h125
           clear h125
           by_cases h60 : s[p] = 60
           · have t60 : ((s[p].toNat : Int) == 60) = true:=eq_yes (n:=60) (by decide) h60
             cases hd : ((s.data.toList.drop (p + 1)).head? == some s[p])
             · have HD:=Lh hd
               have hXX : hexT (s.data.toList.drop (p + 1)) = X:=by
                 rw [h60] at hd;simp only [beq_eq_false_iff_ne,ne_eq] at hd;rw [← hX,h60];dsimp only;rw [if_neg (by decide),if_pos (by decide),if_neg hd]
               clear hX hd h60 g91 g93 g123 g125
               cases X with
               | bad k =>
                 have HXX:=Lh hXX
                 clear hXX
                 go_enter Tryz.func79,Tryz.ntmps79
                 go_wp2_with (go_at_call 122;refine (skip_as _ _ p HP.out ha hmx.out _).mono ?_;rintro e w' ⟨rfl,rfl⟩)
                 go_quiet ((go_at_call 29;exact Calls.quiet_of_same (double_at s p _ hp hmx.out HD.out _)))
                 go_wp2_with fail
                 refine (tok_bad HXX.out (hex_in s p hp hs _)).mono ?_
                 rintro e wz ⟨rfl,hb⟩
                 obtain ⟨hcz,hfz⟩:=bcell hb
                 have hsz : w.heap.size + 2 ≤ wz.heap.size:=by have:=hb.size;simp at this;omega
                 go_wp2
                 refine bodyPost_ret (v:=.tuple #[.agg #[.int .i64 0,.int .i64 0,.int .i64 0,.int .i64 0,.string ⟨#[]⟩],.int .i64 k]) (by simp [results,Tryz.results79,go_sem,hcz,hfz,show w.heap.size < w.heap.size + 1 + 1 by omega]) rfl ⟨rfl,bel⟩
               | good t =>
                 have HXX:=Lh hXX
                 clear hXX
                 go_enter Tryz.func79,Tryz.ntmps79
                 go_wp2_with (go_at_call 122;refine (skip_as _ _ p HP.out ha hmx.out _).mono ?_;rintro e w' ⟨rfl,rfl⟩)
                 go_quiet ((go_at_call 29;exact Calls.quiet_of_same (double_at s p _ hp hmx.out HD.out _)))
                 go_wp2_with fail
                 refine (tok_good HXX.out (hex_in s p hp hs _)).mono ?_
                 rintro e wz ⟨rfl,hb⟩
                 obtain ⟨hcz,hfz⟩:=bcell hb
                 have hsz : w.heap.size + 2 ≤ wz.heap.size:=by have:=hb.size;simp at this;omega
                 go_wp2
                 refine bodyPost_ret (v:=.tuple #[.agg #[.int .i64 t.kind,.int .i64 p,.int .i64 (p + t.len),.int .i64 t.n,.string ⟨t.s.toArray⟩],.int .i64 0]) (by simp [results,Tryz.results79,go_sem,hcz,hfz,show w.heap.size < w.heap.size + 1 + 1 by omega]) rfl ⟨by simp [tokR],bel⟩
             · have HD:=Lh hd
               have hd2 : (s.data.toList.drop (p + 1)).head? = some 60:=by rw [h60] at hd;simpa using hd
               have HX:=Lh (show X = .good ⟨6,2,0,[60,60]⟩ by rw [← hX,h60];simp [hd2])
               obtain ⟨hp1,hs1⟩:=dbl_lt hd2
               have HE:=Lh (show s.extract p (p + 2) = ⟨#[60,60]⟩ by rw [ext2 s p hp1,h60,hs1])
               clear hX hd hd2 hs1 h60 g91 g93 g123 g125
               go_enter Tryz.func79,Tryz.ntmps79
               go_wp2_with (go_at_call 122;refine (skip_as _ _ p HP.out ha hmx.out _).mono ?_;rintro e w' ⟨rfl,rfl⟩)
               go_quiet ((go_at_call 29;exact Calls.quiet_of_same (double_at s p _ hp hmx.out HD.out _)))
               go_wp2_with fail
               refine (mark_in s p 2 (by omega) hmx.out _).mono ?_
               rintro e wz ⟨rfl,hb⟩
               obtain ⟨hcz,hfz⟩:=bcell hb
               have hsz : w.heap.size + 2 ≤ wz.heap.size:=by have:=hb.size;simp at this;omega
               go_wp2
               refine bodyPost_ret (v:=.tuple #[.agg #[.int .i64 6,.int .i64 p,.int .i64 (p + 2),.int .i64 0,.string (s.extract p (p + 2))],.int .i64 0]) (by simp [results,Tryz.results79,go_sem,hcz,hfz,show w.heap.size < w.heap.size + 1 + 1 by omega]) rfl ⟨by rw [HX.out,HE.out];simp [tokR],bel⟩
           · have t60 : ((s[p].toNat : Int) == 60) = false:=eq_no (n:=60) (by decide) h60
             have g60:=h60
             clear h60
             by_cases h62 : s[p] = 62
             · have t62 : ((s[p].toNat : Int) == 62) = true:=eq_yes (n:=62) (by decide) h62
               cases hd : ((s.data.toList.drop (p + 1)).head? == some s[p])
               · have HD:=Lh hd
                 have HX:=Lh (show X = .bad 3 by rw [h62] at hd;simp only [beq_eq_false_iff_ne,ne_eq] at hd;rw [← hX,h62];dsimp only;rw [if_neg (by decide),if_neg (by decide),if_pos (by decide),if_neg hd])
                 clear hX hd h62 g91 g93 g123 g125 g60
                 go_enter Tryz.func79,Tryz.ntmps79
                 go_wp2_with (go_at_call 122;refine (skip_as _ _ p HP.out ha hmx.out _).mono ?_;rintro e w' ⟨rfl,rfl⟩)
                 go_quiet ((go_at_call 29;exact Calls.quiet_of_same (double_at s p _ hp hmx.out HD.out _)))
                 go_wp2_with fail
                 refine (refused_in _ _).mono ?_
                 rintro e wz ⟨rfl,hb⟩
                 obtain ⟨hcz,hfz⟩:=bcell hb
                 have hsz : w.heap.size + 2 ≤ wz.heap.size:=by have:=hb.size;simp at this;omega
                 go_wp2
                 refine bodyPost_ret (v:=.tuple #[.agg #[.int .i64 0,.int .i64 0,.int .i64 0,.int .i64 0,.string ⟨#[]⟩],.int .i64 3]) (by simp [results,Tryz.results79,go_sem,hcz,hfz,show w.heap.size < w.heap.size + 1 + 1 by omega]) rfl ⟨by rw [HX.out];rfl,bel⟩
               · have HD:=Lh hd
                 have hd2 : (s.data.toList.drop (p + 1)).head? = some 62:=by rw [h62] at hd;simpa using hd
                 have HX:=Lh (show X = .good ⟨6,2,0,[62,62]⟩ by rw [← hX,h62];simp [hd2])
                 obtain ⟨hp1,hs1⟩:=dbl_lt hd2
                 have HE:=Lh (show s.extract p (p + 2) = ⟨#[62,62]⟩ by rw [ext2 s p hp1,h62,hs1])
                 clear hX hd hd2 hs1 h62 g91 g93 g123 g125 g60
                 go_enter Tryz.func79,Tryz.ntmps79
                 go_wp2_with (go_at_call 122;refine (skip_as _ _ p HP.out ha hmx.out _).mono ?_;rintro e w' ⟨rfl,rfl⟩)
                 go_quiet ((go_at_call 29;exact Calls.quiet_of_same (double_at s p _ hp hmx.out HD.out _)))
                 go_wp2_with fail
                 refine (mark_in s p 2 (by omega) hmx.out _).mono ?_
                 rintro e wz ⟨rfl,hb⟩
                 obtain ⟨hcz,hfz⟩:=bcell hb
                 have hsz : w.heap.size + 2 ≤ wz.heap.size:=by have:=hb.size;simp at this;omega
                 go_wp2
                 refine bodyPost_ret (v:=.tuple #[.agg #[.int .i64 6,.int .i64 p,.int .i64 (p + 2),.int .i64 0,.string (s.extract p (p + 2))],.int .i64 0]) (by simp [results,Tryz.results79,go_sem,hcz,hfz,show w.heap.size < w.heap.size + 1 + 1 by omega]) rfl ⟨by rw [HX.out,HE.out];simp [tokR],bel⟩
             · have t62 : ((s[p].toNat : Int) == 62) = false:=eq_no (n:=62) (by decide) h62
               have g62:=h62
               clear h62
               by_cases h47 : s[p] = 47
               · have t47 : ((s[p].toNat : Int) == 47) = true:=eq_yes (n:=47) (by decide) h47
                 have hXX : nameT (s.data.toList.drop (p + 1)) = X:=by
                   rw [← hX,h47];simp
                 obtain ⟨b,hd⟩ : ∃ b,((s.data.toList.drop (p + 1)).head? == some s[p]) = b:=⟨_,rfl⟩
                 have HD:=Lh hd
                 clear hX hd h47 g91 g93 g123 g125 g60 g62
                 cases X with
                 | bad k =>
                   have HXX:=Lh hXX
                   clear hXX
                   go_enter Tryz.func79,Tryz.ntmps79
                   go_wp2_with (go_at_call 122;refine (skip_as _ _ p HP.out ha hmx.out _).mono ?_;rintro e w' ⟨rfl,rfl⟩)
                   go_quiet ((go_at_call 29;exact Calls.quiet_of_same (double_at s p _ hp hmx.out HD.out _)))
                   go_wp2_with fail
                   refine (tok_bad HXX.out (name_in s p hp hs _)).mono ?_
                   rintro e wz ⟨rfl,hb⟩
                   obtain ⟨hcz,hfz⟩:=bcell hb
                   have hsz : w.heap.size + 2 ≤ wz.heap.size:=by have:=hb.size;simp at this;omega
                   go_wp2
                   refine bodyPost_ret (v:=.tuple #[.agg #[.int .i64 0,.int .i64 0,.int .i64 0,.int .i64 0,.string ⟨#[]⟩],.int .i64 k]) (by simp [results,Tryz.results79,go_sem,hcz,hfz,show w.heap.size < w.heap.size + 1 + 1 by omega]) rfl ⟨rfl,bel⟩
                 | good t =>
                   have HXX:=Lh hXX
                   clear hXX
                   go_enter Tryz.func79,Tryz.ntmps79
                   go_wp2_with (go_at_call 122;refine (skip_as _ _ p HP.out ha hmx.out _).mono ?_;rintro e w' ⟨rfl,rfl⟩)
                   go_quiet ((go_at_call 29;exact Calls.quiet_of_same (double_at s p _ hp hmx.out HD.out _)))
                   go_wp2_with fail
                   refine (tok_good HXX.out (name_in s p hp hs _)).mono ?_
                   rintro e wz ⟨rfl,hb⟩
                   obtain ⟨hcz,hfz⟩:=bcell hb
                   have hsz : w.heap.size + 2 ≤ wz.heap.size:=by have:=hb.size;simp at this;omega
                   go_wp2
                   refine bodyPost_ret (v:=.tuple #[.agg #[.int .i64 t.kind,.int .i64 p,.int .i64 (p + t.len),.int .i64 t.n,.string ⟨t.s.toArray⟩],.int .i64 0]) (by simp [results,Tryz.results79,go_sem,hcz,hfz,show w.heap.size < w.heap.size + 1 + 1 by omega]) rfl ⟨by simp [tokR],bel⟩
               · have t47 : ((s[p].toNat : Int) == 47) = false:=eq_no (n:=47) (by decide) h47
                 have g47:=h47
                 clear h47
                 by_cases h40 : s[p] = 40
                 · have t40 : ((s[p].toNat : Int) == 40) = true:=eq_yes (n:=40) (by decide) h40
                   have hXX : textT (s.data.toList.drop (p + 1)) = X:=by
                     rw [← hX,h40];simp
                   obtain ⟨b,hd⟩ : ∃ b,((s.data.toList.drop (p + 1)).head? == some s[p]) = b:=⟨_,rfl⟩
                   have HD:=Lh hd
                   clear hX hd h40 g91 g93 g123 g125 g60 g62 g47
                   cases X with
                   | bad k =>
                     have HXX:=Lh hXX
                     clear hXX
                     go_enter Tryz.func79,Tryz.ntmps79
                     go_wp2_with (go_at_call 122;refine (skip_as _ _ p HP.out ha hmx.out _).mono ?_;rintro e w' ⟨rfl,rfl⟩)
                     go_quiet ((go_at_call 29;exact Calls.quiet_of_same (double_at s p _ hp hmx.out HD.out _)))
                     go_wp2_with fail
                     refine (tok_bad HXX.out (text_in s p hp hs _)).mono ?_
                     rintro e wz ⟨rfl,hb⟩
                     obtain ⟨hcz,hfz⟩:=bcell hb
                     have hsz : w.heap.size + 2 ≤ wz.heap.size:=by have:=hb.size;simp at this;omega
                     go_wp2
                     refine bodyPost_ret (v:=.tuple #[.agg #[.int .i64 0,.int .i64 0,.int .i64 0,.int .i64 0,.string ⟨#[]⟩],.int .i64 k]) (by simp [results,Tryz.results79,go_sem,hcz,hfz,show w.heap.size < w.heap.size + 1 + 1 by omega]) rfl ⟨rfl,bel⟩
                   | good t =>
                     have HXX:=Lh hXX
                     clear hXX
                     go_enter Tryz.func79,Tryz.ntmps79
                     go_wp2_with (go_at_call 122;refine (skip_as _ _ p HP.out ha hmx.out _).mono ?_;rintro e w' ⟨rfl,rfl⟩)
                     go_quiet ((go_at_call 29;exact Calls.quiet_of_same (double_at s p _ hp hmx.out HD.out _)))
                     go_wp2_with fail
                     refine (tok_good HXX.out (text_in s p hp hs _)).mono ?_
                     rintro e wz ⟨rfl,hb⟩
                     obtain ⟨hcz,hfz⟩:=bcell hb
                     have hsz : w.heap.size + 2 ≤ wz.heap.size:=by have:=hb.size;simp at this;omega
                     go_wp2
                     refine bodyPost_ret (v:=.tuple #[.agg #[.int .i64 t.kind,.int .i64 p,.int .i64 (p + t.len),.int .i64 t.n,.string ⟨t.s.toArray⟩],.int .i64 0]) (by simp [results,Tryz.results79,go_sem,hcz,hfz,show w.heap.size < w.heap.size + 1 + 1 by omega]) rfl ⟨by simp [tokR],bel⟩
                 · have t40 : ((s[p].toNat : Int) == 40) = false:=eq_no (n:=40) (by decide) h40
                   have g40:=h40
                   clear h40
                   by_cases h41 : s[p] = 41
                   · have t41 : ((s[p].toNat : Int) == 41) = true:=eq_yes (n:=41) (by decide) h41
                     have HX:=Lh (show X = .bad 3 by rw [← hX,h41];rfl)
                     obtain ⟨b,hd⟩ : ∃ b,((s.data.toList.drop (p + 1)).head? == some s[p]) = b:=⟨_,rfl⟩
                     have HD:=Lh hd
                     clear hX hd h41 g91 g93 g123 g125 g60 g62 g47 g40
                     go_enter Tryz.func79,Tryz.ntmps79
                     go_wp2_with (go_at_call 122;refine (skip_as _ _ p HP.out ha hmx.out _).mono ?_;rintro e w' ⟨rfl,rfl⟩)
                     go_quiet ((go_at_call 29;exact Calls.quiet_of_same (double_at s p _ hp hmx.out HD.out _)))
                     go_wp2_with fail
                     refine (refused_in _ _).mono ?_
                     rintro e wz ⟨rfl,hb⟩
                     obtain ⟨hcz,hfz⟩:=bcell hb
                     have hsz : w.heap.size + 2 ≤ wz.heap.size:=by have:=hb.size;simp at this;omega
                     go_wp2
                     refine bodyPost_ret (v:=.tuple #[.agg #[.int .i64 0,.int .i64 0,.int .i64 0,.int .i64 0,.string ⟨#[]⟩],.int .i64 3]) (by simp [results,Tryz.results79,go_sem,hcz,hfz,show w.heap.size < w.heap.size + 1 + 1 by omega]) rfl ⟨by rw [HX.out];rfl,bel⟩
                   · have t41 : ((s[p].toNat : Int) == 41) = false:=eq_no (n:=41) (by decide) h41
                     have g41:=h41
                     clear h41
                     have hXX : wordT ((s.data.toList.drop p).take (regN (s.data.toList.drop p))) = X:=by
                       rw [← hX,drop_get s p hp];simp [g91,g93,g123,g125,g60,g62,g47,g40,g41]
                     obtain ⟨b,hd⟩ : ∃ b,((s.data.toList.drop (p + 1)).head? == some s[p]) = b:=⟨_,rfl⟩
                     have HD:=Lh hd
                     clear hX hd g91 g93 g123 g125 g60 g62 g47 g40 g41
                     cases X with
                     | bad k =>
                       have HXX:=Lh hXX
                       clear hXX
                       go_enter Tryz.func79,Tryz.ntmps79
                       go_wp2_with (go_at_call 122;refine (skip_as _ _ p HP.out ha hmx.out _).mono ?_;rintro e w' ⟨rfl,rfl⟩)
                       go_quiet ((go_at_call 29;exact Calls.quiet_of_same (double_at s p _ hp hmx.out HD.out _)))
                       go_wp2_with fail
                       refine (tok_bad HXX.out (word_in s p hp hs m _ (hm2.below (belowDrewN (Below.refl _ _) _)))).mono ?_
                       rintro e wz ⟨rfl,hb⟩
                       obtain ⟨hcz,hfz⟩:=bcell hb
                       have hsz : w.heap.size + 2 ≤ wz.heap.size:=by have:=hb.size;simp at this;omega
                       go_wp2
                       refine bodyPost_ret (v:=.tuple #[.agg #[.int .i64 0,.int .i64 0,.int .i64 0,.int .i64 0,.string ⟨#[]⟩],.int .i64 k]) (by simp [results,Tryz.results79,go_sem,hcz,hfz,show w.heap.size < w.heap.size + 1 + 1 by omega]) rfl ⟨rfl,bel⟩
                     | good t =>
                       have HXX:=Lh hXX
                       clear hXX
                       go_enter Tryz.func79,Tryz.ntmps79
                       go_wp2_with (go_at_call 122;refine (skip_as _ _ p HP.out ha hmx.out _).mono ?_;rintro e w' ⟨rfl,rfl⟩)
                       go_quiet ((go_at_call 29;exact Calls.quiet_of_same (double_at s p _ hp hmx.out HD.out _)))
                       go_wp2_with fail
                       refine (tok_good HXX.out (word_in s p hp hs m _ (hm2.below (belowDrewN (Below.refl _ _) _)))).mono ?_
                       rintro e wz ⟨rfl,hb⟩
                       obtain ⟨hcz,hfz⟩:=bcell hb
                       have hsz : w.heap.size + 2 ≤ wz.heap.size:=by have:=hb.size;simp at this;omega
                       go_wp2
                       refine bodyPost_ret (v:=.tuple #[.agg #[.int .i64 t.kind,.int .i64 p,.int .i64 (p + t.len),.int .i64 t.n,.string ⟨t.s.toArray⟩],.int .i64 0]) (by simp [results,Tryz.results79,go_sem,hcz,hfz,show w.heap.size < w.heap.size + 1 + 1 by omega]) rfl ⟨by simp [tokR],bel⟩
 · have hp2 : p = s.size:=by omega
   rw [if_pos (List.drop_eq_nil_of_le (by have : s.data.toList.length = s.size:=rfl;omega))]
   subst hp2
   go_enter Tryz.func79,Tryz.ntmps79
   go_wp2_with (go_at_call 122;refine (skip_as _ _ _ HP.out ha hmx.out _).mono ?_;rintro e w' ⟨rfl,rfl⟩)
   refine bodyPost_ret (v:=.tuple #[.agg #[.int .i64 0,.int .i64 s.size,.int .i64 s.size,.int .i64 0,.string ⟨#[]⟩],.int .i64 0]) (by simp [results,Tryz.results79,go_sem]) rfl ⟨by simp [tokR],bel⟩
end Go.Proofs.YtinafodpgjbedaaGreatDoor
