/- Parts of the proof: WfC WfD WfE VaC. -/
import Derived.Test.YtfgdhcemidlnfaaGreatDoorWqd
import Derived.Test.YtfgdhcemidlnfaaGreatDoorWqe
import Derived.Test.YtfgdhcemidlnfaaGreatDoorWqc
import Derived.Deep.Cut
import Derived.Deep.CutBlock
set_option linter.all false
set_option maxRecDepth 100000
set_option maxHeartbeats 8000000
namespace Go.Proofs.YtfgdhcemidlnfaaGreatDoor
open Go.RowKit Fo
theorem strC_four (c : UInt8) : (strC c).length ≤ 4:=by unfold strC;split <;> (try split) <;> simp
theorem lit_row (w : World) (l : L) : RArg encB (w.alloc (.cells (l.map fun c => Value.int .u8 c.toNat).toArray 5)) (.slice (some ⟨w.heap.size,0,none⟩) l.length l.length) l:=by
 refine RArg_lit (t:=5) (fr:=(0,0)) ?_
 have e : encB.row l = l.map fun c => Value.int .u8 c.toNat:=by
   induction l with
   | nil => rfl
   | cons c l ih => show _ :: encB.row l = _;rw [ih];rfl
 rw [e]
 exact heap_alloc_new w _
theorem oct_nat (c : UInt8) : (((48 + c / 64 : UInt8).toNat : Nat) : Int) = 48 + (c.toNat : Int) / 64 ∧ (((48 + c / 8 % 8 : UInt8).toNat : Nat) : Int) = 48 + (c.toNat : Int) / 8 % 8 ∧ (((48 + c % 8 : UInt8).toNat : Nat) : Int) = 48 + (c.toNat : Int) % 8:=by
 have h : ∀ n,n < 256 → ((((48 + (UInt8.ofNat n) / 64 : UInt8).toNat : Nat) : Int) = 48 + ((UInt8.ofNat n).toNat : Int) / 64 ∧ (((48 + (UInt8.ofNat n) / 8 % 8 : UInt8).toNat : Nat) : Int) = 48 + ((UInt8.ofNat n).toNat : Int) / 8 % 8 ∧ (((48 + (UInt8.ofNat n) % 8 : UInt8).toNat : Nat) : Int) = 48 + ((UInt8.ofNat n).toNat : Int) % 8):=by decide +kernel
 have:=h c.toNat (UInt8.toNat_lt c)
 simpa using this
theorem oct_row (w : World) (c : UInt8) : RArg encB (w.alloc (.cells #[.int .u8 92,.int .u8 (48 + (c.toNat : Int) / 64),.int .u8 (48 + (c.toNat : Int) / 8 % 8),.int .u8 (48 + (c.toNat : Int) % 8)] 5)) (.slice (some ⟨w.heap.size,0,none⟩) 4 4) [92,48 + c / 64,48 + c / 8 % 8,48 + c % 8]:=by
 obtain ⟨o1,o2,o3⟩:=oct_nat c
 have:=lit_row w [92,48 + c / 64,48 + c / 8 % 8,48 + c % 8]
 simp only [List.map_cons,List.map_nil,List.length_cons,List.length_nil] at this
 rw [o1,o2,o3] at this
 exact this
theorem r4stringB (s : ByteArray) (hs : s.size ≤ 32767) (w : World) : Calls Tryz.prog 203 #[.string s] w fun e w' => e = .returned (.tuple #[.string ⟨(strW s.data.toList).toArray⟩,.int .i64 0]) ∧ Below w.heap.size w w':=by
 obtain ⟨T,hT⟩ : ∃ T,40 :: s.data.toList.flatMap strC = T:=⟨_,rfl⟩
 have HE:=Lh (show strW s.data.toList = T ++ [41] by rw [← hT];rfl)
 have HT:=Lh (show [40] ++ (s.data.toList.drop 0).flatMap strC = T by simpa using hT)
 clear hT
 go_enter Tryz.func203,Tryz.ntmps203
 go_wp2
 go_loopw [4,5] (fun o i wr => ∃ (k : Nat) (l : L),k ≤ s.size ∧ i = .int .i64 k ∧ l.length ≤ 1 + 4 * k ∧ rownS encB 5 wr w.heap.size o l ∧ Below w.heap.size w wr ∧ Hid (l ++ (s.data.toList.drop k).flatMap strC = T)) (fun _ i _ => s.size - (intOf i).toNat)
 case atStart =>
   refine ⟨0,[40],by omega,by go_num,by simp,?_,bel,HT⟩
   exact ownB_row.1 (World.ownsRow_lit (e:=5) (size:=1) (base:=w.heap.size) w #[.int .u8 40] 1 (Nat.le_refl _) (by unfold maxLen;omega) rfl)
 case round =>
   obtain ⟨k,l,hk,rfl,hl,hr,hbr,H⟩:=hrel
   clear HT
   by_cases hlt : k < s.size
   · have hc:=UInt8.toNat_lt s[k]
     have hc2 : (s[k].toNat : Int) < 256:=by omega
     have hzr:=hbr.size
     by_cases hq : s[k] = 40 ∨ s[k] = 41 ∨ s[k] = 92
     · have HC:=Lh (strC_esc hq)
       have HL:=Lh (lit_row wr [92])
       have hr2:=hr.below ((Below.refl _ wr).alloc (Nat.le_refl _) (.cells #[.int .u8 92] 5))
       have n1 : ¬ (s[k].toNat : Int) < 32:=by rcases hq with h | h | h <;> rw [h] <;> decide
       have n2 : ¬ (126 : Int) < (s[k].toNat : Int):=by rcases hq with h | h | h <;> rw [h] <;> decide
       rcases hq with hq | hq | hq
       · have e1 : ((s[k].toNat : Int) == 40) = true:=eq_yes (n:=40) (by decide) hq
         have HQ:=Lh hq
         clear hq
         go_upto_region 12 with (at_builtin;go_must (refine rappendR (E:=encB) rfl _ _ rfl Tryz.underlying98 Tryz.infoU8 rfl (by decide) (by decide) w.heap.size _ _ l [92] hr2 rfl rfl HL.out (by intro c e;cases e) (by simp;omega) (by simp;omega) ?_);intro p3 q3 w3 hr3 hb3 hg3)
         have HL2:=Lh (lit_row w3 [s[k]])
         have hz3:=hb3.size
         have hr4:=hr3.below ((Below.refl _ w3).alloc (Nat.le_refl _) (.cells #[.int .u8 s[k].toNat] 5))
         have hb4:=(hbr.alloc hzr (.cells #[.int .u8 92] 5)).trans hb3
         have hz4:=hb4.size
         go_wp2_with (at_builtin;go_must (refine rappendR (E:=encB) rfl _ _ rfl Tryz.underlying98 Tryz.infoU8 rfl (by decide) (by decide) w.heap.size _ _ (l ++ [92]) [s[k]] hr4 rfl rfl HL2.out (by intro c e;cases e) (by simp;omega) (by simp;omega) ?_);intro p5 q5 w5 hr5 hb5 hg5)
         go_roundw
         case rel => exact ⟨k + 1,l ++ strC s[k],by omega,by go_num,by have:=strC_four s[k];simp;omega,by rw [HC.out];have:=hr5;rw [List.append_assoc,List.length_append] at this;exact this,(hb4.alloc hz4 _).trans hb5,by have:=H.out;rw [drop_get s k hlt,List.flatMap_cons,← List.append_assoc] at this;exact Lh this⟩
         case measure => simp [intOf];omega
       · have e1 : ((s[k].toNat : Int) == 40) = false:=by rw [hq];rfl
         have e2 : ((s[k].toNat : Int) == 41) = true:=eq_yes (n:=41) (by decide) hq
         have HQ:=Lh hq
         clear hq
         go_upto_region 12 with (at_builtin;go_must (refine rappendR (E:=encB) rfl _ _ rfl Tryz.underlying98 Tryz.infoU8 rfl (by decide) (by decide) w.heap.size _ _ l [92] hr2 rfl rfl HL.out (by intro c e;cases e) (by simp;omega) (by simp;omega) ?_);intro p3 q3 w3 hr3 hb3 hg3)
         have HL2:=Lh (lit_row w3 [s[k]])
         have hz3:=hb3.size
         have hr4:=hr3.below ((Below.refl _ w3).alloc (Nat.le_refl _) (.cells #[.int .u8 s[k].toNat] 5))
         have hb4:=(hbr.alloc hzr (.cells #[.int .u8 92] 5)).trans hb3
         have hz4:=hb4.size
         go_wp2_with (at_builtin;go_must (refine rappendR (E:=encB) rfl _ _ rfl Tryz.underlying98 Tryz.infoU8 rfl (by decide) (by decide) w.heap.size _ _ (l ++ [92]) [s[k]] hr4 rfl rfl HL2.out (by intro c e;cases e) (by simp;omega) (by simp;omega) ?_);intro p5 q5 w5 hr5 hb5 hg5)
         go_roundw
         case rel => exact ⟨k + 1,l ++ strC s[k],by omega,by go_num,by have:=strC_four s[k];simp;omega,by rw [HC.out];have:=hr5;rw [List.append_assoc,List.length_append] at this;exact this,(hb4.alloc hz4 _).trans hb5,by have:=H.out;rw [drop_get s k hlt,List.flatMap_cons,← List.append_assoc] at this;exact Lh this⟩
         case measure => simp [intOf];omega
       · have e1 : ((s[k].toNat : Int) == 40) = false:=by rw [hq];rfl
         have e2 : ((s[k].toNat : Int) == 41) = false:=by rw [hq];rfl
         have e3 : ((s[k].toNat : Int) == 92) = true:=eq_yes (n:=92) (by decide) hq
         have HQ:=Lh hq
         clear hq
         go_upto_region 12 with (at_builtin;go_must (refine rappendR (E:=encB) rfl _ _ rfl Tryz.underlying98 Tryz.infoU8 rfl (by decide) (by decide) w.heap.size _ _ l [92] hr2 rfl rfl HL.out (by intro c e;cases e) (by simp;omega) (by simp;omega) ?_);intro p3 q3 w3 hr3 hb3 hg3)
         have HL2:=Lh (lit_row w3 [s[k]])
         have hz3:=hb3.size
         have hr4:=hr3.below ((Below.refl _ w3).alloc (Nat.le_refl _) (.cells #[.int .u8 s[k].toNat] 5))
         have hb4:=(hbr.alloc hzr (.cells #[.int .u8 92] 5)).trans hb3
         have hz4:=hb4.size
         go_wp2_with (at_builtin;go_must (refine rappendR (E:=encB) rfl _ _ rfl Tryz.underlying98 Tryz.infoU8 rfl (by decide) (by decide) w.heap.size _ _ (l ++ [92]) [s[k]] hr4 rfl rfl HL2.out (by intro c e;cases e) (by simp;omega) (by simp;omega) ?_);intro p5 q5 w5 hr5 hb5 hg5)
         go_roundw
         case rel => exact ⟨k + 1,l ++ strC s[k],by omega,by go_num,by have:=strC_four s[k];simp;omega,by rw [HC.out];have:=hr5;rw [List.append_assoc,List.length_append] at this;exact this,(hb4.alloc hz4 _).trans hb5,by have:=H.out;rw [drop_get s k hlt,List.flatMap_cons,← List.append_assoc] at this;exact Lh this⟩
         case measure => simp [intOf];omega
     by_cases c1 : (s[k].toNat : Int) < 32
     · skip
       have HC:=Lh (strC_oct hq (by first | exact .inl c1 | exact .inr c2))
       have HL:=Lh (oct_row wr s[k])
       have hr2:=hr.below ((Below.refl _ wr).alloc (Nat.le_refl _) (.cells #[.int .u8 92,.int .u8 (48 + (s[k].toNat : Int) / 64),.int .u8 (48 + (s[k].toNat : Int) / 8 % 8),.int .u8 (48 + (s[k].toNat : Int) % 8)] 5))
       go_wp2_with (at_builtin;go_must (refine rappendR (E:=encB) rfl _ _ rfl Tryz.underlying98 Tryz.infoU8 rfl (by decide) (by decide) w.heap.size _ _ l _ hr2 rfl rfl HL.out (by intro c e;cases e) (by simp;omega) (by simp;omega) ?_);intro p3 q3 w3 hr3 hb3 hg3)
       go_roundw
       case rel => exact ⟨k + 1,l ++ strC s[k],by omega,by go_num,by have:=strC_four s[k];simp;omega,by rw [HC.out];exact hr3,(hbr.alloc hzr _).trans hb3,by have:=H.out;rw [drop_get s k hlt,List.flatMap_cons,← List.append_assoc] at this;exact Lh this⟩
       case measure => simp [intOf];omega
     by_cases c2 : (126 : Int) < s[k].toNat
     · skip
       have HC:=Lh (strC_oct hq (by first | exact .inl c1 | exact .inr c2))
       have HL:=Lh (oct_row wr s[k])
       have hr2:=hr.below ((Below.refl _ wr).alloc (Nat.le_refl _) (.cells #[.int .u8 92,.int .u8 (48 + (s[k].toNat : Int) / 64),.int .u8 (48 + (s[k].toNat : Int) / 8 % 8),.int .u8 (48 + (s[k].toNat : Int) % 8)] 5))
       go_wp2_with (at_builtin;go_must (refine rappendR (E:=encB) rfl _ _ rfl Tryz.underlying98 Tryz.infoU8 rfl (by decide) (by decide) w.heap.size _ _ l _ hr2 rfl rfl HL.out (by intro c e;cases e) (by simp;omega) (by simp;omega) ?_);intro p3 q3 w3 hr3 hb3 hg3)
       go_roundw
       case rel => exact ⟨k + 1,l ++ strC s[k],by omega,by go_num,by have:=strC_four s[k];simp;omega,by rw [HC.out];exact hr3,(hbr.alloc hzr _).trans hb3,by have:=H.out;rw [drop_get s k hlt,List.flatMap_cons,← List.append_assoc] at this;exact Lh this⟩
       case measure => simp [intOf];omega
     have HC:=Lh (strC_own hq c1 c2)
     have HL:=Lh (lit_row wr [s[k]])
     have hr2:=hr.below ((Below.refl _ wr).alloc (Nat.le_refl _) (.cells #[.int .u8 s[k].toNat] 5))
     have e1 : ((s[k].toNat : Int) == 40) = false:=eq_no (n:=40) (by decide) (fun h => hq (.inl h))
     have e2 : ((s[k].toNat : Int) == 41) = false:=eq_no (n:=41) (by decide) (fun h => hq (.inr (.inl h)))
     have e3 : ((s[k].toNat : Int) == 92) = false:=eq_no (n:=92) (by decide) (fun h => hq (.inr (.inr h)))
     go_wp2_with (at_builtin;go_must (refine rappendR (E:=encB) rfl _ _ rfl Tryz.underlying98 Tryz.infoU8 rfl (by decide) (by decide) w.heap.size _ _ l [s[k]] hr2 rfl rfl HL.out (by intro c e;cases e) (by simp;omega) (by simp;omega) ?_);intro p3 q3 w3 hr3 hb3 hg3)
     go_roundw
     case rel => exact ⟨k + 1,l ++ strC s[k],by omega,by go_num,by have:=strC_four s[k];simp;omega,by rw [HC.out];exact hr3,(hbr.alloc hzr _).trans hb3,by have:=H.out;rw [drop_get s k hlt,List.flatMap_cons,← List.append_assoc] at this;exact Lh this⟩
     case measure => simp [intOf];omega
   · have HX:=Lh (show l = T by have:=H.out;rw [List.drop_of_length_le (by simp;omega)] at this;simpa using this)
     have HL:=Lh (lit_row wr [41])
     have hzr:=hbr.size
     have hr2:=hr.below ((Below.refl _ wr).alloc (Nat.le_refl _) (.cells #[.int .u8 41] 5))
     clear H
     go_wp2_with (at_builtin;go_must (refine rappendR (E:=encB) rfl _ _ rfl Tryz.underlying98 Tryz.infoU8 rfl (by decide) (by decide) w.heap.size _ _ l [41] hr2 rfl rfl HL.out (by intro c e;cases e) (by simp;omega) (by simp;omega) ?_);intro p3 q3 w3 hr3 hb3 hg3;have hcv : (Go.convert 98 9 (.slice p3 (l.length + 1) q3)).run Tryz.prog w3 = .ok (.string ⟨(l ++ [41]).toArray⟩) w3:=convB (l:=l ++ [41]) (ownB_row.2 hr3))
     go_ret2
     exact ⟨by rw [HE.out,HX.out];rfl,(hbr.alloc hzr _).trans hb3⟩
def JoinI (R : L) (ps : List L) (k : Nat) (c : UInt8) (A : ByteArray) : Prop:=A.data.toList ++ joinW c (ps.drop k) = R ∧ ((A.size = 0 ∧ c = 32) ∨ ∃ h : 0 < A.size,A[A.size - 1] = c)
theorem JoinI.end_ {R : L} {ps : List L} {k : Nat} {c : UInt8} {A : ByteArray} (h : JoinI R ps k c A) (hk : ps.length ≤ k) : A.data.toList = R:=by
 have:=h.1
 rw [List.drop_eq_nil_of_le hk] at this
 simpa [joinW] using this
theorem JoinI.skip {R : L} {ps : List L} {k : Nat} {c : UInt8} {A : ByteArray} (h : JoinI R ps k c A) (hk : k < ps.length) (he : ps[k] = []) : JoinI R ps (k + 1) c A:=by
 refine ⟨?_,h.2⟩
 have:=h.1
 rw [List.drop_eq_getElem_cons hk,he] at this
 exact this
theorem last_app (A s : ByteArray) (hs : 0 < s.size) : ∃ h : 0 < (A ++ s).size,(A ++ s)[(A ++ s).size - 1] = s[s.size - 1]:=by
 have hz : (A ++ s).size = A.size + s.size:=by simp
 refine ⟨by omega,?_⟩
 rw [ByteArray.getElem_append_right (by omega)]
 congr 1
 omega
theorem ba_data (A B : ByteArray) : (A ++ B).data.toList = A.data.toList ++ B.data.toList:=by simp
theorem ba_cons (s : ByteArray) (hs : 0 < s.size) : ∃ y q,s.data.toList = y :: q ∧ s = ⟨(y :: q).toArray⟩:=by
 cases hq : s.data.toList with
 | nil =>
   have : s.data.toList.length = s.size:=by simp
   rw [hq] at this;simp at this;omega
 | cons y q => exact ⟨y,q,rfl,ByteArray.ext (by rw [← hq])⟩
theorem join_put {R : L} {ps : List L} {k : Nat} {c : UInt8} {A s : ByteArray} (h : JoinI R ps k c A) (hk : k < ps.length) (he : ps[k] = s.data.toList) (hs : 0 < s.size) :
   A.data.toList ++ ((if (regular c || c == 47) && regular s[0] then [32] else []) ++ s.data.toList ++ joinW s[s.size - 1] (ps.drop (k + 1))) = R:=by
 have h1:=h.1
 rw [List.drop_eq_getElem_cons hk,he] at h1
 obtain ⟨y,q,hq,hs'⟩:=ba_cons s hs
 subst hs'
 have e : joinW c ((y :: q) :: ps.drop (k + 1)) = _:=joinW_cons c y q (ps.drop (k + 1))
 have h2 : A.data.toList ++ joinW c ((y :: q) :: ps.drop (k + 1)) = R:=h1
 rw [e,List.getLast_eq_getElem] at h2
 exact h2
theorem JoinI.put {R : L} {ps : List L} {k : Nat} {c : UInt8} {A s : ByteArray} (h : JoinI R ps k c A) (hk : k < ps.length) (he : ps[k] = s.data.toList) (hs : 0 < s.size) (hno : ((regular c || c == 47) && regular s[0]) = false) : JoinI R ps (k + 1) s[s.size - 1] (A ++ s):=by
 refine ⟨?_,.inr (last_app A s hs)⟩
 rw [← join_put h hk he hs,hno,if_neg (by decide),ba_data]
 simp
theorem JoinI.sep {R : L} {ps : List L} {k : Nat} {c : UInt8} {A s : ByteArray} (h : JoinI R ps k c A) (hk : k < ps.length) (he : ps[k] = s.data.toList) (hs : 0 < s.size) (hyes : ((regular c || c == 47) && regular s[0]) = true) : JoinI R ps (k + 1) s[s.size - 1] (A ++ ⟨#[32]⟩ ++ s):=by
 refine ⟨?_,.inr (last_app _ s hs)⟩
 rw [← join_put h hk he hs,hyes,if_pos rfl,ba_data,ba_data]
 simp
theorem JoinI.size {R : L} {ps : List L} {k : Nat} {c : UInt8} {A : ByteArray} (h : JoinI R ps k c A) (hl : R.length ≤ 1000000000) : A.size ≤ 1000000000:=by
 have h2 : A.data.toList.length = A.size:=by simp
 rw [← h.1,List.length_append] at hl
 omega
theorem r4join (S : Nat → Prop) (v : Value) (ps : List L) (w : World) (hK : KeysAt S w v ps) (hS : ∀ b, S b → b < w.heap.size) (hn : ps.length ≤ 100000000) (hl : (joinW 32 ps).length ≤ 1000000000) (hx : ∀ x ∈ ps, x.length ≤ 1000000000) :
   Calls Tryz.prog 96 #[v] w fun e w' => e = .returned (.string ⟨(joinW 32 ps).toArray⟩) ∧ Below w.heap.size w w':=by
 obtain ⟨R,hR⟩ : ∃ R,joinW 32 ps = R:=⟨_,rfl⟩
 rw [hR] at hl ⊢
 obtain ⟨p,cp,hv⟩ : ∃ p c,v = .slice p ps.length c:=by
   rcases hK with ⟨e,p,c,h⟩ | ⟨b,o,c,h,_⟩
   · exact ⟨_,_,by rw [e];exact h⟩
   · exact ⟨_,_,h⟩
 subst hv
 obtain ⟨n,hn1⟩ : ∃ n,ps.length = n:=⟨_,rfl⟩
 have HK:=Lh (And.intro hK (And.intro hS hx))
 have HN:=Lh hn1
 have HR:=Lh (show JoinI R ps 0 32 ⟨#[]⟩ from ⟨hR,.inl ⟨rfl,rfl⟩⟩)
 have HL:=Lh hl
 rw [hn1] at hn ⊢
 clear hK hS hn1 hR hl hx
 go_enter Tryz.func96,Tryz.ntmps96
 go_wp2
 go_loopw [3,9] (fun o i wr => ∃ (k : Nat) (c : UInt8) (A : ByteArray),k ≤ n ∧ i = .int .i64 k ∧ o = .string A ∧ Below w.heap.size w wr ∧ Hid (JoinI R ps k c A)) (fun _ i _ => n - (intOf i).toNat)
 case atStart => exact ⟨0,32,_,Nat.zero_le _,rfl,rfl,Below.refl _ _,HR⟩
 case round =>
   clear HR
   obtain ⟨k,c,A,hk,rfl,rfl,hbr,HA⟩:=hrel
   have hAz:=HA.out.size HL.out
   by_cases hlk : k < n
   · have hKr : KeysAt S wr (.slice p n cp) ps := by
       have:=HK.out.1.kept (fun b h => hbr.block b (HK.out.2.1 b h));rw [HN.out] at this;exact this
     obtain ⟨b,off,rfl⟩ : ∃ b off,p = some ⟨b,off,none⟩:=by
       rcases hKr with ⟨e,_⟩ | ⟨b,off,c,e,_⟩
       · have:=HN.out;rw [e] at this;simp at this;omega
       · cases e;exact ⟨_,_,rfl⟩
     obtain ⟨sb,g0⟩:=key_at hKr HN.out k hlk
     have hk' : k < ps.length:=by rw [HN.out];exact hlk
     have hgd : ps.getD k [] = ps[k]:=by rw [List.getD_eq_getElem?_getD,List.getElem?_eq_getElem hk'];rfl
     have hxl:=HK.out.2.2 _ (List.getElem_mem hk')
     rw [hgd] at g0
     obtain ⟨s,hs⟩ : ∃ s : ByteArray,s = ⟨ps[k].toArray⟩:=⟨_,rfl⟩
     have hpk : ps[k] = s.data.toList:=by rw [hs]
     have hsz2 : s.size ≤ 1000000000:=by rw [hs];exact hxl
     rw [← hs] at g0
     have HP:=Lh (And.intro hk' hpk)
     clear hKr hgd hs hxl hpk
     by_cases hs0 : s.size = 0
     · have he : s = ⟨#[]⟩ := by
         apply ByteArray.ext
         exact Array.eq_empty_of_size_eq_zero hs0
       subst he
       have HJ:=Lh (HA.out.skip HP.out.1 HP.out.2)
       clear hs0
       go_wp2
       go_roundw
       case rel => exact ⟨k + 1,c,A,by omega,by go_num,val_str (by simp),hbr,HJ⟩
       case measure => simp [intOf];omega
     · have hsz : 0 < s.size:=by omega
       have hne : (s.toList == ([] : L)) = false:=by
         rw [ByteArray.toList_eq]
         obtain ⟨y,q,hq,_⟩:=ba_cons s hsz
         rw [hq];rfl
       have HRX:=Lh (fun W => rregular s[0] W)
       cases hA0 : decide (A.size = 0)
       · have hA1 : 0 < A.size := by have : ¬ A.size = 0 := by simpa using hA0
                                     omega
         have hneA : (A.toList == ([] : L)) = false:=by
           rw [ByteArray.toList_eq]
           obtain ⟨y,q,hq,_⟩:=ba_cons A hA1
           rw [hq];rfl
         have hlc : A[A.size - 1] = c:=by
           rcases HA.out.2 with h | ⟨_,h⟩
           · omega
           · exact h
         subst hlc
         have HRC:=Lh (fun W => rregular A[A.size - 1] W)
         have hwj : IntKind.i64.wrap ((A.size : Int) - 1) = (A.size : Int) - 1:=IntWalk.i64_in _ (by omega)
         clear hA0
         cases h2 : regular s[0]
         · rw [h2] at HRX
           have HJ:=Lh (HA.out.put HP.out.1 HP.out.2 hsz (by rw [h2];simp))
           go_wp2_with (go_at_call 152;first | (with_reducible refine (HRC.out _).mono ?_;rintro e w9 ⟨rfl,h9⟩;obtain rfl:=h9.symm) | (with_reducible refine (HRX.out _).mono ?_;rintro e w9 ⟨rfl,h9⟩;obtain rfl:=h9.symm))
           go_roundw
           case rel => exact ⟨k + 1,_,_,by omega,by go_num,rfl,hbr,HJ⟩
           case measure => simp [intOf];omega
         · rw [h2] at HRX
           cases h3 : (A[A.size - 1] == 47)
           · have e47 : ((A[A.size - 1].toNat : Int) == 47) = false:=eq_no (n:=47) (by decide) (by simpa using h3)
             cases h1 : regular A[A.size - 1]
             · rw [h1] at HRC
               have HJ:=Lh (HA.out.put HP.out.1 HP.out.2 hsz (by rw [h1,h2,h3];rfl))
               go_wp2_with (go_at_call 152;first | (with_reducible refine (HRC.out _).mono ?_;rintro e w9 ⟨rfl,h9⟩;obtain rfl:=h9.symm) | (with_reducible refine (HRX.out _).mono ?_;rintro e w9 ⟨rfl,h9⟩;obtain rfl:=h9.symm))
               go_roundw
               case rel => exact ⟨k + 1,_,_,by omega,by go_num,rfl,hbr,HJ⟩
               case measure => simp [intOf];omega
             · rw [h1] at HRC
               have HJ:=Lh (HA.out.sep HP.out.1 HP.out.2 hsz (by rw [h1,h2];rfl))
               go_wp2_with (go_at_call 152;first | (with_reducible refine (HRC.out _).mono ?_;rintro e w9 ⟨rfl,h9⟩;obtain rfl:=h9.symm) | (with_reducible refine (HRX.out _).mono ?_;rintro e w9 ⟨rfl,h9⟩;obtain rfl:=h9.symm))
               go_roundw
               case rel => exact ⟨k + 1,_,_,by omega,by go_num,rfl,hbr,HJ⟩
               case measure => simp [intOf];omega
           · have e47 : ((A[A.size - 1].toNat : Int) == 47) = true:=eq_yes (n:=47) (by decide) (by simpa using h3)
             have HJ:=Lh (HA.out.sep HP.out.1 HP.out.2 hsz (by rw [h2,h3];simp))
             go_wp2_with (go_at_call 152;first | (with_reducible refine (HRC.out _).mono ?_;rintro e w9 ⟨rfl,h9⟩;obtain rfl:=h9.symm) | (with_reducible refine (HRX.out _).mono ?_;rintro e w9 ⟨rfl,h9⟩;obtain rfl:=h9.symm))
             go_roundw
             case rel => exact ⟨k + 1,_,_,by omega,by go_num,rfl,hbr,HJ⟩
             case measure => simp [intOf];omega
       · have hA1 : A.size = 0:=by simpa using hA0
         have he : A = ⟨#[]⟩:=by
           apply ByteArray.ext
           exact Array.eq_empty_of_size_eq_zero hA1
         have hc : c = 32:=by
           rcases HA.out.2 with h | ⟨h,_⟩
           · exact h.2
           · omega
         subst he
         have HJ:=Lh (HA.out.put HP.out.1 HP.out.2 hsz (by rw [hc];rfl))
         clear hA0 hA1 hc
         go_wp2
         go_roundw
         case rel => exact ⟨k + 1,_,_,by omega,by go_num,rfl,hbr,HJ⟩
         case measure => simp [intOf];omega
   · have HE:=Lh (HA.out.end_ (by rw [HN.out];omega))
     go_wp2
     go_ret
     exact ⟨by rw [← HE.out];rfl,hbr⟩
theorem r4real (n : Int) (h1 : -1073741824 ≤ n) (h2 : n ≤ 1073741824) (w : World) : Calls Tryz.prog 202 #[.int .i64 n] w fun e w' => e = .returned (.tuple #[.string ⟨(realT n).toArray⟩,.int .i64 0]) ∧ Below w.heap.size w w':=by
 have HC:=Lh (fun W => rrealT n h1 h2 W)
 go_enter Tryz.func202,Tryz.ntmps202
 go_wp2_with fail
 refine (HC.out _).mono ?_
 rintro e w1 ⟨rfl,hb1⟩
 go_wp2
 go_ret2
 exact ⟨rfl,hb1⟩
theorem r4string (s : L) (hs : s.length ≤ 32767) (w : World) : Calls Tryz.prog 203 #[.string ⟨s.toArray⟩] w fun e w' => e = .returned (.tuple #[.string ⟨(strW s).toArray⟩,.int .i64 0]) ∧ Below w.heap.size w w' :=
 r4stringB ⟨s.toArray⟩ hs w
def LeafOut (w : World) (l : List L) (e : Ending) (w' : World) : Prop:=∃ t,l = [t] ∧ e = .returned (.string ⟨t.toArray⟩) ∧ Below w.heap.size w w'
theorem lnull_in (n g : Int) (s : L) (p1 p2 : Option Addr) (n1 c1 n2 c2 : Nat) (w : World) :
   Calls Tryz.prog 155 #[.agg #[.int .i64 0,.int .i64 n,.int .i64 g,.string ⟨s.toArray⟩,.slice p1 n1 c1,.slice p2 n2 c2]] w (LeafOut w [wNull]):=by
 go_enter Tryz.func155,Tryz.ntmps155
 go_wp2
 go_ret
 exact ⟨_,rfl,rfl,bel⟩
theorem lint_in (n g : Int) (s : L) (p1 p2 : Option Addr) (n1 c1 n2 c2 : Nat) (h1 : -2147483647 ≤ n) (h2 : n ≤ 2147483647) (w : World) :
   Calls Tryz.prog 155 #[.agg #[.int .i64 2,.int .i64 n,.int .i64 g,.string ⟨s.toArray⟩,.slice p1 n1 c1,.slice p2 n2 c2]] w (LeafOut w [digI n]):=by
 have HC:=Lh (fun W => r7number n h1 h2 W)
 clear h1 h2
 go_enter Tryz.func155,Tryz.ntmps155
 go_wp2_with fail
 refine (HC.out _).mono ?_
 rintro e w1 ⟨rfl,rfl⟩
 go_wp2
 go_ret
 exact ⟨_,rfl,rfl,bel⟩
theorem lreal_in (n g : Int) (s : L) (p1 p2 : Option Addr) (n1 c1 n2 c2 : Nat) (h1 : -1073741824 ≤ n) (h2 : n ≤ 1073741824) (w : World) :
   Calls Tryz.prog 155 #[.agg #[.int .i64 3,.int .i64 n,.int .i64 g,.string ⟨s.toArray⟩,.slice p1 n1 c1,.slice p2 n2 c2]] w (LeafOut w [realT n]):=by
 have HC:=Lh (fun W => r4real n h1 h2 W)
 clear h1 h2
 go_enter Tryz.func155,Tryz.ntmps155
 go_wp2_with fail
 refine (HC.out _).mono ?_
 rintro e w1 ⟨rfl,hb1⟩
 have hz1:=hb1.size
 simp at hz1
 go_wp2
 go_ret
 exact ⟨_,rfl,rfl,bel⟩
theorem lstring_in (n g : Int) (s : L) (p1 p2 : Option Addr) (n1 c1 n2 c2 : Nat) (h : s.length ≤ 32767) (w : World) :
   Calls Tryz.prog 155 #[.agg #[.int .i64 4,.int .i64 n,.int .i64 g,.string ⟨s.toArray⟩,.slice p1 n1 c1,.slice p2 n2 c2]] w (LeafOut w [strW s]):=by
 have HC:=Lh (fun W => r4string s h W)
 clear h
 go_enter Tryz.func155,Tryz.ntmps155
 go_wp2_with fail
 refine (HC.out _).mono ?_
 rintro e w1 ⟨rfl,hb1⟩
 have hz1:=hb1.size
 simp at hz1
 go_wp2
 go_ret
 exact ⟨_,rfl,rfl,bel⟩
theorem lname_in (n g : Int) (s : L) (p1 p2 : Option Addr) (n1 c1 n2 c2 : Nat) (h : nameB s = true) (w : World) :
   Calls Tryz.prog 155 #[.agg #[.int .i64 5,.int .i64 n,.int .i64 g,.string ⟨s.toArray⟩,.slice p1 n1 c1,.slice p2 n2 c2]] w (LeafOut w [nameW s]):=by
 have HC:=Lh (fun W => r4name s h W)
 clear h
 go_enter Tryz.func155,Tryz.ntmps155
 go_wp2_with fail
 refine (HC.out _).mono ?_
 rintro e w1 ⟨rfl,hb1⟩
 have hz1:=hb1.size
 simp at hz1
 go_wp2
 go_ret
 exact ⟨_,rfl,rfl,bel⟩
theorem lbool_in (n g : Int) (s : L) (p1 p2 : Option Addr) (n1 c1 n2 c2 : Nat) (h : n = 0 ∨ n = 1) (w : World) :
   Calls Tryz.prog 155 #[.agg #[.int .i64 1,.int .i64 n,.int .i64 g,.string ⟨s.toArray⟩,.slice p1 n1 c1,.slice p2 n2 c2]] w (LeafOut w [if n = 1 then wTrue else wFalse]):=by
 rcases h with rfl | rfl
 · go_enter Tryz.func155,Tryz.ntmps155
   go_wp2
   go_ret
   exact ⟨_,rfl,rfl,bel⟩
 · go_enter Tryz.func155,Tryz.ntmps155
   go_wp2
   go_ret
   exact ⟨_,rfl,rfl,bel⟩
theorem r7leaf (o : Ob) (d : Nat) (hok : okO (d + 1) o) (h6 : o.kind ≠ 6) (h7 : o.kind ≠ 7) (k8 : o.kind ≠ 8) (p1 p2 : Option Addr) (n1 c1 n2 c2 : Nat) (w : World) :
   Calls Tryz.prog 155 #[.agg #[.int .i64 o.kind,.int .i64 o.n,.int .i64 o.g,.string ⟨o.s.toArray⟩,.slice p1 n1 c1,.slice p2 n2 c2]] w (LeafOut w (leafW o)):=by
 obtain ⟨hu,h9,hf,hs,_,hk,_⟩:=hok
 unfold leafW
 by_cases k1 : o.kind = 1
 · rw [if_pos k1,k1]
   have : o.n = 0 ∨ o.n = 1:=by simpa [fitsB,k1] using hf
   exact lbool_in _ _ _ _ _ _ _ _ _ this w
 rw [if_neg k1]
 by_cases k2 : o.kind = 2
 · rw [if_pos k2,k2]
   have : -2147483647 ≤ o.n ∧ o.n ≤ 2147483647:=by simpa [fitsB,k2] using hf
   exact lint_in _ _ _ _ _ _ _ _ _ this.1 this.2 w
 rw [if_neg k2]
 by_cases k3 : o.kind = 3
 · rw [if_pos k3,k3]
   have : -1073741824 ≤ o.n ∧ o.n ≤ 1073741824:=by simpa [fitsB,k3] using hf
   exact lreal_in _ _ _ _ _ _ _ _ _ this.1 this.2 w
 rw [if_neg k3]
 by_cases k4 : o.kind = 4
 · rw [if_pos k4,k4]
   have : o.s.length ≤ 32767:=by simpa [longB,k4] using hs
   exact lstring_in _ _ _ _ _ _ _ _ _ this w
 rw [if_neg k4]
 by_cases k5 : o.kind = 5
 · rw [if_pos k5,k5]
   have : nameB o.s = true:=by simpa [keysB,k5] using hk
   exact lname_in _ _ _ _ _ _ _ _ _ this w
 rw [if_neg k5]
 rw [if_neg k8]
 have k0 : o.kind = 0:=by
   apply Classical.byContradiction
   intro k0
   simp [usesB,k0,k1,k2,k3,k4,k5,h6,h7,k8,h9] at hu
 rw [k0]
 exact lnull_in _ _ _ _ _ _ _ _ _ w
def VEnd (k : Int) (e : Ending) : Prop:=(k = 0 ∧ e = .returned (.tuple #[])) ∨ (k ≠ 0 ∧ e = (.panicked [{ v:=.iface 190 (.agg #[.int .i64 k]),recovered:=false }]))
theorem VEnd.bad {k : Int} (h : k ≠ 0) : VEnd k (.panicked [{ v:=.iface 190 (.agg #[.int .i64 k]),recovered:=false }]):=.inr ⟨h,rfl⟩
theorem VEnd.good : VEnd 0 (.returned (.tuple #[])):=.inl ⟨rfl,rfl⟩
def VCheck (S : Nat → Prop) (n : Nat) : Prop:=∀ (d : Nat) (w : World) (cs : List Value) (o : Ob),ObjAt S d w cs o → smallO d o → (∀ b,S b → b < w.heap.size) →
 Calls Tryz.prog 135 #[.agg cs.toArray,.int .i64 (25 - (n : Int))] w fun e w' => VEnd (checkB n o) e ∧ Below w.heap.size w w'
theorem vcheck_zero (S : Nat → Prop) : VCheck S 0:=by
 intro d w cs o h _ _
 obtain ⟨p1,c1,p2,c2,rfl⟩:=h.form2
 unfold objCells
 go_enter Tryz.func135,Tryz.ntmps135
 go_wp2_with (go_at_call 175;refine (vmust_no _ _).mono ?_;rintro e w9 ⟨rfl,h9⟩;obtain rfl:=h9.symm)
 exact ⟨rfl,VEnd.bad (by unfold checkB;decide),bel⟩
def usesP (o : Ob) : Bool:=let u:=usedV o.kind
 u.2.2.2.2.2 && (u.1 || o.n == 0) && (u.2.1 || o.g == 0) && (u.2.2.1 || o.s.isEmpty) && (u.2.2.2.1 || o.keys.isEmpty) && (u.2.2.2.2.1 || o.kids.isEmpty)
theorem usesP_eq (o : Ob) : usesP o = usesB o:=by
 unfold usesP usesB zeroB usedV
 by_cases h0 : o.kind = 0
 · simp [h0,Bool.and_assoc]
 by_cases h1 : o.kind = 1 ∨ o.kind = 2 ∨ o.kind = 3
 · simp [h0,h1,Bool.and_assoc]
 by_cases h4 : o.kind = 4 ∨ o.kind = 5
 · simp [h0,h1,h4,Bool.and_assoc]
 by_cases h6 : o.kind = 6
 · simp [h6,Bool.and_assoc]
 by_cases h7 : o.kind = 7
 · simp [h7,Bool.and_assoc]
 by_cases h8 : o.kind = 8
 · simp [h8,Bool.and_assoc]
 by_cases h9 : o.kind = 9
 · simp [h9,Bool.and_assoc]
 · simp [h0,h1,h4,h6,h7,h8,h9]
theorem short_eq (o : Ob) (h : usesB o = true) : shortV o.kind o.s.length = !decide (longB o.kind < o.s.length):=by
 rw [← usesP_eq] at h
 unfold usesP usedV at h
 unfold shortV longB
 by_cases h4 : o.kind = 4
 · simp [h4];rw [Bool.eq_iff_iff];simp
 by_cases h5 : o.kind = 5
 · simp [h5];rw [Bool.eq_iff_iff];simp
 by_cases h9 : o.kind = 9
 · simp [h9];rw [Bool.eq_iff_iff];simp
 have he : o.s = []:=by
   by_cases h0 : o.kind = 0
   · simp [h0] at h;exact h.1.1.2
   by_cases h1 : o.kind = 1 ∨ o.kind = 2 ∨ o.kind = 3
   · simp [h0,h1] at h;exact h.1.1.2
   by_cases h6 : o.kind = 6
   · simp [h6] at h;exact h.1.2
   by_cases h7 : o.kind = 7
   · simp [h7] at h;exact h.2
   by_cases h8 : o.kind = 8
   · simp [h8] at h;exact h.1.1
   · simp [h0,h1,h4,h5,h6,h7,h8,h9] at h
 simp [h4,h5,h9,he]
theorem chk_world {w w1 : World} {v0 v1 v2 v3 v4 v5 u0 u1 u2 u3 u4 : Value} {t t2 : TypeId} (hb1 : Below (w.alloc (.cells #[v0, v1, v2, v3, v4, v5] t)).heap.size (w.alloc (.cells #[v0, v1, v2, v3, v4, v5] t)) w1) :
   ∃ W3 B4,w1.alloc (.cells #[u0,u1,u2,u3,u4] t2) = W3 ∧ w1.heap.size = B4 ∧ w.heap.size < B4 ∧ B4 < W3.heap.size ∧ Below w.heap.size w W3 ∧
     W3.cell? ⟨w.heap.size,0,none⟩ = some v0 ∧ W3.cell? ⟨w.heap.size,1,none⟩ = some v1 ∧ W3.cell? ⟨w.heap.size,2,none⟩ = some v2 ∧ W3.cell? ⟨w.heap.size,3,none⟩ = some v3 ∧ W3.cell? ⟨w.heap.size,4,none⟩ = some v4 ∧ W3.cell? ⟨w.heap.size,5,none⟩ = some v5 ∧
     W3.cell? ⟨B4,0,none⟩ = some u0 ∧ W3.cell? ⟨B4,1,none⟩ = some u1 ∧ W3.cell? ⟨B4,2,none⟩ = some u2 ∧ W3.cell? ⟨B4,3,none⟩ = some u3 ∧ W3.cell? ⟨B4,4,none⟩ = some u4:=by
 have hz:=hb1.size
 simp at hz
 have k : ∀ o,(w1.alloc (.cells #[u0,u1,u2,u3,u4] t2)).cell? ⟨w.heap.size,o,none⟩ = (w.alloc (.cells #[v0,v1,v2,v3,v4,v5] t)).cell? ⟨w.heap.size,o,none⟩:=fun o =>
   (World.cell?_of_block (a:=⟨w.heap.size,o,none⟩) (Below.heap_alloc _ _ _ (show w.heap.size < w1.heap.size by omega))).trans (World.cell?_of_block (a:=⟨w.heap.size,o,none⟩) (hb1.block _ (by simp)))
 refine ⟨_,_,rfl,rfl,by omega,by simp,?_,?_⟩
 · exact ((show Below w.heap.size w (w.alloc _) from (Below.refl _ _).alloc (Nat.le_refl _) _).trans (hb1.mono (by simp))).alloc (by omega) _
 · refine ⟨?_,?_,?_,?_,?_,?_,?_,?_,?_,?_,?_⟩
   all_goals first | (rw [k];simp [World.cell?_alloc_at];done) | (simp [World.cell?_alloc_at];done)
theorem empty_no {s : L} (h : ¬ s = []) : s.isEmpty = false:=by
 cases s with
 | nil => exact absurd rfl h
 | cons => rfl
theorem empty_no2 {s : L} (h : ¬ s = []) : (s == []) = false:=by simpa using h
theorem used_no {K : Int} {a b c d e f : Bool} (h : usedV K = (a,b,c,d,e,f)) (h0 : ¬ K = 0) (h1 : ¬ K = 1) (h2 : ¬ K = 2) (h3 : ¬ K = 3) (h4 : ¬ K = 4) (h5 : ¬ K = 5) (h6 : ¬ K = 6) (h7 : ¬ K = 7) (h8 : ¬ K = 8) (h9 : ¬ K = 9) : f = false:=by
 unfold usedV at h
 rw [if_neg h0,if_neg (by simp [h1,h2,h3]),if_neg (by simp [h4,h5]),if_neg h6,if_neg h7,if_neg h8,if_neg h9] at h
 simp only [Prod.mk.injEq] at h
 exact h.2.2.2.2.2.symm
theorem used_keys {K : Int} {a b c d e f : Bool} (h : usedV K = (a,b,c,d,e,f)) : d = decide (K = 7 ∨ K = 9):=by
 unfold usedV at h
 by_cases h0 : K = 0
 · subst h0;simp at h;simp [← h.2.2.2.1]
 by_cases h1 : K = 1 ∨ K = 2 ∨ K = 3
 · rw [if_neg h0,if_pos h1] at h;simp only [Prod.mk.injEq] at h;rw [← h.2.2.2.1];symm;rw [decide_eq_false_iff_not];omega
 by_cases h4 : K = 4 ∨ K = 5
 · rw [if_neg h0,if_neg h1,if_pos h4] at h;simp only [Prod.mk.injEq] at h;rw [← h.2.2.2.1];symm;rw [decide_eq_false_iff_not];omega
 by_cases h6 : K = 6
 · subst h6;simp at h;simp [← h.2.2.2.1]
 by_cases h7 : K = 7
 · subst h7;simp at h;simp [← h.2.2.2.1]
 by_cases h8 : K = 8
 · subst h8;simp at h;simp [← h.2.2.2.1]
 by_cases h9 : K = 9
 · subst h9;simp at h;simp [← h.2.2.2.1]
 · rw [if_neg h0,if_neg h1,if_neg h4,if_neg h6,if_neg h7,if_neg h8,if_neg h9] at h
   simp only [Prod.mk.injEq] at h
   rw [← h.2.2.2.1];symm;rw [decide_eq_false_iff_not];omega
theorem chk_keep {w W W' : World} {B4 : Nat} {a0 a1 a2 a3 a4 a5 a6 : Value} (hl1 : w.heap.size < B4) (hl2 : B4 < W.heap.size) (hW : Below w.heap.size w W) (hb : Below W.heap.size W W')
   (q0 : W.cell? ⟨w.heap.size,0,none⟩ = some a0) (q1 : W.cell? ⟨w.heap.size,1,none⟩ = some a1) (q2 : W.cell? ⟨w.heap.size,2,none⟩ = some a2) (q3 : W.cell? ⟨w.heap.size,3,none⟩ = some a3) (q4 : W.cell? ⟨w.heap.size,4,none⟩ = some a4) (q5 : W.cell? ⟨w.heap.size,5,none⟩ = some a5) (v3 : W.cell? ⟨B4,3,none⟩ = some a6) :
   B4 < W'.heap.size ∧ Below w.heap.size w W' ∧ W'.cell? ⟨w.heap.size,0,none⟩ = some a0 ∧ W'.cell? ⟨w.heap.size,1,none⟩ = some a1 ∧ W'.cell? ⟨w.heap.size,2,none⟩ = some a2 ∧ W'.cell? ⟨w.heap.size,3,none⟩ = some a3 ∧ W'.cell? ⟨w.heap.size,4,none⟩ = some a4 ∧ W'.cell? ⟨w.heap.size,5,none⟩ = some a5 ∧ W'.cell? ⟨B4,3,none⟩ = some a6:=by
 have hz:=hb.size
 have k : ∀ b o,b < W.heap.size → W'.cell? ⟨b,o,none⟩ = W.cell? ⟨b,o,none⟩:=fun b o h => World.cell?_of_block (a:=⟨b,o,none⟩) (hb.block b h)
 exact ⟨by omega,hW.trans (hb.mono hW.size),(k _ _ (by omega)).trans q0,(k _ _ (by omega)).trans q1,(k _ _ (by omega)).trans q2,(k _ _ (by omega)).trans q3,(k _ _ (by omega)).trans q4,(k _ _ (by omega)).trans q5,(k _ _ hl2).trans v3⟩
theorem vcheck_step (S : Nat → Prop) (n : Nat) (hn : n < 24) (IH : VCheck S n) : VCheck S (n + 1):=by
 intro d w cs o hO hsm hS
 cases d with
 | zero => exact hO.elim
 | succ d =>
 obtain ⟨kv,dv,rfl,hK,hR0⟩:=hO
 have hR : RowAt S d w dv o.kids:=hR0
 clear hR0
 obtain ⟨m1,m2,m3,m4,m5⟩:=hsm
 have a1 : ∃ p c,kv = .slice p o.keys.length c:=by
   rcases hK with ⟨e,p,c,h⟩ | ⟨b,o,c,h,_⟩
   · exact ⟨_,_,by rw [e];exact h⟩
   · exact ⟨_,_,h⟩
 have a2 : ∃ p c,dv = .slice p o.kids.length c:=by
   rcases hR with ⟨e,p,c,h⟩ | ⟨b,o,c,h,_⟩
   · exact ⟨_,_,by rw [e];exact h⟩
   · exact ⟨_,_,h⟩
 obtain ⟨p1,c1,rfl⟩:=a1
 obtain ⟨p2,c2,rfl⟩:=a2
 have HFI:=Lh (fun W => vfits_in o.kind o.n o.g o.s p1 p2 o.keys.length c1 o.kids.length c2 W)
 rw [fits_eq] at HFI
 have HLO:=Lh (fun W => vshort_in o.kind o.n o.g o.s p1 p2 o.keys.length c1 o.kids.length c2 W)
 have HKN:=Lh (fun W => vkey_in o.s m3 W)
 have HKE:=Lh (fun W (hW : Below w.heap.size w W) h79 => vkeys_in S d o _ _ W (hK.kept (fun b h => hW.block b (hS b h))) (hR.kept (fun b h => hW.block b (hS b h))) (fun b h => Nat.lt_of_lt_of_le (hS b h) hW.size) m1 m4 h79)
 have HRW:=Lh (And.intro hR (And.intro m5 hS))
 obtain ⟨C,hC⟩ : ∃ C,checkB (n + 1) o = C:=⟨_,rfl⟩
 rw [hC]
 unfold checkB at hC
 have HSH:=Lh (short_eq o)
 have HUP:=Lh (usesP_eq o)
 obtain ⟨D,hD⟩ : ∃ D : Int,25 - ((n + 1 : Nat) : Int) = D:=⟨_,rfl⟩
 rw [hD]
 have hD1 : 1 ≤ D:=by omega
 have hD2 : D ≤ 24:=by omega
 have hDn : D + 1 = 25 - (n : Int):=by omega
 have hn23 : (n != 23) = !(D == 1):=by
   rw [Bool.eq_iff_iff];simp;omega
 rw [hn23] at hC
 have hNo : usesB o = false ∨ (D == 1 || o.kind != 9) = false → VEnd C (.panicked [{ v:=.iface 190 (.agg #[.int .i64 10]),recovered:=false }]):=by
   intro h
   have : C = 10:=by
     rw [← hC,if_pos]
     rcases h with h | h
     · simp [h]
     · simp at h;simp [h]
   rw [this];exact VEnd.bad (by decide)
 have hYes : usesB o = true → (D == 1 || o.kind != 9) = true → (if !fitsB o then 2 else if longB o.kind < o.s.length then 5 else if 8191 < o.kids.length then 6 else if !keysB o then 3 else firstBad (o.kids.map (checkB n))) = C:=by
   intro h1 h2
   have e : (!usesB o || o.kind == 9 && !(D == 1)) = false:=by
     rw [h1]
     cases h3 : (D == 1)
     · rw [h3] at h2;simp at h2 ⊢;exact h2
     · simp
   have hC2:=hC
   rw [e,if_neg (by decide)] at hC2
   exact hC2
 clear hC hn23 hD
 unfold usesP at HUP
 obtain ⟨K,hk0⟩ : ∃ K,o.kind = K:=⟨_,rfl⟩
 obtain ⟨nk,hnk⟩ : ∃ nk,o.kids.length = nk:=⟨_,rfl⟩
 obtain ⟨n2,hn2⟩ : ∃ n2,o.keys.length = n2:=⟨_,rfl⟩
 obtain ⟨N,hN0⟩ : ∃ N,o.n = N:=⟨_,rfl⟩
 obtain ⟨G,hG0⟩ : ∃ G,o.g = G:=⟨_,rfl⟩
 obtain ⟨s,hs0⟩ : ∃ s,o.s = s:=⟨_,rfl⟩
 have ke : o.keys.isEmpty = ((n2 : Int) == 0):=by rw [← hn2];cases o.keys <;> simp;omega
 have de : o.kids.isEmpty = ((nk : Int) == 0):=by rw [← hnk];cases o.kids <;> simp;omega
 have HUS:=Lh (fun W => used_in K W)
 obtain ⟨⟨un,ug,us,uk,ud,ok⟩,hT⟩ : ∃ u,usedV K = u:=⟨_,rfl⟩
 unfold objCells
 rw [ke,de,hk0,hN0,hG0,hs0,hT] at HUP
 rw [hk0,hN0,hG0,hs0,hn2,hnk]
 rw [hk0] at hNo hYes
 have hSN:=HSH.out
 rw [hk0,hs0] at hSN
 rw [hk0,hN0,hG0,hs0,hn2,hnk] at HFI HLO HKE
 rw [hs0] at HKN hYes
 rw [hnk] at hYes m2
 rw [hT] at HUS
 have HNo:=Lh (fun (h : (ok && (un || N == 0) && (ug || G == 0) && (us || s.isEmpty) && (uk || (n2 : Int) == 0) && (ud || (nk : Int) == 0) && (D == 1 || K != 9)) = false) => hNo ((Bool.and_eq_false_iff.1 h).imp_left (fun h => HUP.out.symm.trans h)))
 have HYes:=Lh (fun (h : (ok && (un || N == 0) && (ug || G == 0) && (us || s.isEmpty) && (uk || (n2 : Int) == 0) && (ud || (nk : Int) == 0) && (D == 1 || K != 9)) = true) => And.intro (HUP.out.symm.trans (Bool.and_eq_true_iff.1 h).1) (hYes (HUP.out.symm.trans (Bool.and_eq_true_iff.1 h).1) (Bool.and_eq_true_iff.1 h).2))
 have HT:=Lh hT
 have HSN:=Lh hSN
 have HNK:=Lh (And.intro hnk (And.intro hk0 hs0))
 have HDN:=Lh hDn
 have hLGb : longB K ≤ 1048576:=longB_le K
 have hd24 : decide (D ≤ 24) = true:=by simp;omega
 have hSS : ¬ s = [] ∨ s = []:=(Classical.em _).symm
 clear hT hNo hYes hSN ke de hK hR hS m1 m4 m5 m3 hk0 hnk hN0 hG0 hs0 hn2 hDn HSH HUP
 dsimp only [usedR] at HUS
 go_enter Tryz.func135,Tryz.ntmps135
 go_upto_region 3 with (first | (go_at_call 175;refine (vmust_yes _ _).mono ?_;rintro e w9 ⟨rfl,h9⟩;obtain rfl:=h9.symm) | (go_at_call 176;refine (HUS.out _).mono ?_;rintro e w1 ⟨rfl,hb1⟩;obtain ⟨hc1,hf1⟩:=bcell hb1;have hz1:=hb1.size;simp at hz1))
 obtain ⟨W3,B4,hW3,hB4,hl1,hl2,hBW,q0,q1,q2,q3,q4,q5,v0,v1,v2,v3,v4⟩:=chk_world (u0:=.bool un) (u1:=.bool ug) (u2:=.bool us) (u3:=.bool uk) (u4:=.bool ud) (t2:=192) hb1
 rw [hW3]
 simp only [hB4]
 have HBW:=Lh hBW
 clear hW3 hB4 hc1 hf1 hb1 HUS hz1
 go_cut [] from 11 (fun wc => wc = W3 ∧ Hid (usesB o = true ∧ (if !fitsB o then 2 else if longB K < s.length then 5 else if 8191 < nk then 6 else if !keysB o then 3 else firstBad (o.kids.map (checkB n))) = C))
 case first =>
   clear hBW HFI HLO HKN HKE HRW HSN HNK HDN
   by_cases h0 : K = 0
   · subst h0
     obtain ⟨rfl,rfl,rfl,rfl,rfl,rfl⟩ : un = false ∧ ug = false ∧ us = false ∧ uk = false ∧ ud = false ∧ ok = true:=by have:=HT.out;revert this;cases un <;> cases ug <;> cases us <;> cases uk <;> cases ud <;> cases ok <;> decide
     cases hN : (N == 0)
     · go_wp2_with (go_at_call 175;refine (vmust_no _ _).mono ?_;rintro e w9 ⟨rfl,h9⟩;obtain rfl:=h9.symm)
       exact ⟨rfl,HNo.out (by simp [hN]),HBW.out⟩
     ·
       cases hG : (G == 0)
       · go_wp2_with (go_at_call 175;refine (vmust_no _ _).mono ?_;rintro e w9 ⟨rfl,h9⟩;obtain rfl:=h9.symm)
         exact ⟨rfl,HNo.out (by simp [hN,hG]),HBW.out⟩
       ·
         rcases hSS with hs1 | hs1
         · have hS:=empty_no hs1
           have hs2:=empty_no2 hs1
           go_wp2_with (go_at_call 175;refine (vmust_no _ _).mono ?_;rintro e w9 ⟨rfl,h9⟩;obtain rfl:=h9.symm)
           exact ⟨rfl,HNo.out (by simp [hN,hG,hS]),HBW.out⟩
         · subst hs1
           cases hK : ((n2 : Int) == 0)
           · go_wp2_with (go_at_call 175;refine (vmust_no _ _).mono ?_;rintro e w9 ⟨rfl,h9⟩;obtain rfl:=h9.symm)
             exact ⟨rfl,HNo.out (by simp [hN,hG,hK]),HBW.out⟩
           ·
             cases hD : ((nk : Int) == 0)
             · go_wp2_with (go_at_call 175;refine (vmust_no _ _).mono ?_;rintro e w9 ⟨rfl,h9⟩;obtain rfl:=h9.symm)
               exact ⟨rfl,HNo.out (by simp [hN,hG,hK,hD]),HBW.out⟩
             ·
               cases hd1 : (D == 1)
               · go_wp2_with (go_at_call 175;refine (vmust_yes _ _).mono ?_;rintro e w9 ⟨rfl,h9⟩;obtain rfl:=h9.symm)
                 go_meet
                 exact ⟨rfl,HYes.out (by simp [hN,hG,hK,hD])⟩
               · go_wp2_with (go_at_call 175;refine (vmust_yes _ _).mono ?_;rintro e w9 ⟨rfl,h9⟩;obtain rfl:=h9.symm)
                 go_meet
                 exact ⟨rfl,HYes.out (by simp [hN,hG,hK,hD])⟩
   by_cases h1 : K = 1
   · subst h1
     obtain ⟨rfl,rfl,rfl,rfl,rfl,rfl⟩ : un = true ∧ ug = false ∧ us = false ∧ uk = false ∧ ud = false ∧ ok = true:=by have:=HT.out;revert this;cases un <;> cases ug <;> cases us <;> cases uk <;> cases ud <;> cases ok <;> decide
     cases hG : (G == 0)
     · go_wp2_with (go_at_call 175;refine (vmust_no _ _).mono ?_;rintro e w9 ⟨rfl,h9⟩;obtain rfl:=h9.symm)
       exact ⟨rfl,HNo.out (by simp [hG]),HBW.out⟩
     ·
       rcases hSS with hs1 | hs1
       · have hS:=empty_no hs1
         have hs2:=empty_no2 hs1
         go_wp2_with (go_at_call 175;refine (vmust_no _ _).mono ?_;rintro e w9 ⟨rfl,h9⟩;obtain rfl:=h9.symm)
         exact ⟨rfl,HNo.out (by simp [hG,hS]),HBW.out⟩
       · subst hs1
         cases hK : ((n2 : Int) == 0)
         · go_wp2_with (go_at_call 175;refine (vmust_no _ _).mono ?_;rintro e w9 ⟨rfl,h9⟩;obtain rfl:=h9.symm)
           exact ⟨rfl,HNo.out (by simp [hG,hK]),HBW.out⟩
         ·
           cases hD : ((nk : Int) == 0)
           · go_wp2_with (go_at_call 175;refine (vmust_no _ _).mono ?_;rintro e w9 ⟨rfl,h9⟩;obtain rfl:=h9.symm)
             exact ⟨rfl,HNo.out (by simp [hG,hK,hD]),HBW.out⟩
           ·
             cases hd1 : (D == 1)
             · go_wp2_with (go_at_call 175;refine (vmust_yes _ _).mono ?_;rintro e w9 ⟨rfl,h9⟩;obtain rfl:=h9.symm)
               go_meet
               exact ⟨rfl,HYes.out (by simp [hG,hK,hD])⟩
             · go_wp2_with (go_at_call 175;refine (vmust_yes _ _).mono ?_;rintro e w9 ⟨rfl,h9⟩;obtain rfl:=h9.symm)
               go_meet
               exact ⟨rfl,HYes.out (by simp [hG,hK,hD])⟩
   by_cases h2 : K = 2
   · subst h2
     obtain ⟨rfl,rfl,rfl,rfl,rfl,rfl⟩ : un = true ∧ ug = false ∧ us = false ∧ uk = false ∧ ud = false ∧ ok = true:=by have:=HT.out;revert this;cases un <;> cases ug <;> cases us <;> cases uk <;> cases ud <;> cases ok <;> decide
     cases hG : (G == 0)
     · go_wp2_with (go_at_call 175;refine (vmust_no _ _).mono ?_;rintro e w9 ⟨rfl,h9⟩;obtain rfl:=h9.symm)
       exact ⟨rfl,HNo.out (by simp [hG]),HBW.out⟩
     ·
       rcases hSS with hs1 | hs1
       · have hS:=empty_no hs1
         have hs2:=empty_no2 hs1
         go_wp2_with (go_at_call 175;refine (vmust_no _ _).mono ?_;rintro e w9 ⟨rfl,h9⟩;obtain rfl:=h9.symm)
         exact ⟨rfl,HNo.out (by simp [hG,hS]),HBW.out⟩
       · subst hs1
         cases hK : ((n2 : Int) == 0)
         · go_wp2_with (go_at_call 175;refine (vmust_no _ _).mono ?_;rintro e w9 ⟨rfl,h9⟩;obtain rfl:=h9.symm)
           exact ⟨rfl,HNo.out (by simp [hG,hK]),HBW.out⟩
         ·
           cases hD : ((nk : Int) == 0)
           · go_wp2_with (go_at_call 175;refine (vmust_no _ _).mono ?_;rintro e w9 ⟨rfl,h9⟩;obtain rfl:=h9.symm)
             exact ⟨rfl,HNo.out (by simp [hG,hK,hD]),HBW.out⟩
           ·
             cases hd1 : (D == 1)
             · go_wp2_with (go_at_call 175;refine (vmust_yes _ _).mono ?_;rintro e w9 ⟨rfl,h9⟩;obtain rfl:=h9.symm)
               go_meet
               exact ⟨rfl,HYes.out (by simp [hG,hK,hD])⟩
             · go_wp2_with (go_at_call 175;refine (vmust_yes _ _).mono ?_;rintro e w9 ⟨rfl,h9⟩;obtain rfl:=h9.symm)
               go_meet
               exact ⟨rfl,HYes.out (by simp [hG,hK,hD])⟩
   by_cases h3 : K = 3
   · subst h3
     obtain ⟨rfl,rfl,rfl,rfl,rfl,rfl⟩ : un = true ∧ ug = false ∧ us = false ∧ uk = false ∧ ud = false ∧ ok = true:=by have:=HT.out;revert this;cases un <;> cases ug <;> cases us <;> cases uk <;> cases ud <;> cases ok <;> decide
     cases hG : (G == 0)
     · go_wp2_with (go_at_call 175;refine (vmust_no _ _).mono ?_;rintro e w9 ⟨rfl,h9⟩;obtain rfl:=h9.symm)
       exact ⟨rfl,HNo.out (by simp [hG]),HBW.out⟩
     ·
       rcases hSS with hs1 | hs1
       · have hS:=empty_no hs1
         have hs2:=empty_no2 hs1
         go_wp2_with (go_at_call 175;refine (vmust_no _ _).mono ?_;rintro e w9 ⟨rfl,h9⟩;obtain rfl:=h9.symm)
         exact ⟨rfl,HNo.out (by simp [hG,hS]),HBW.out⟩
       · subst hs1
         cases hK : ((n2 : Int) == 0)
         · go_wp2_with (go_at_call 175;refine (vmust_no _ _).mono ?_;rintro e w9 ⟨rfl,h9⟩;obtain rfl:=h9.symm)
           exact ⟨rfl,HNo.out (by simp [hG,hK]),HBW.out⟩
         ·
           cases hD : ((nk : Int) == 0)
           · go_wp2_with (go_at_call 175;refine (vmust_no _ _).mono ?_;rintro e w9 ⟨rfl,h9⟩;obtain rfl:=h9.symm)
             exact ⟨rfl,HNo.out (by simp [hG,hK,hD]),HBW.out⟩
           ·
             cases hd1 : (D == 1)
             · go_wp2_with (go_at_call 175;refine (vmust_yes _ _).mono ?_;rintro e w9 ⟨rfl,h9⟩;obtain rfl:=h9.symm)
               go_meet
               exact ⟨rfl,HYes.out (by simp [hG,hK,hD])⟩
             · go_wp2_with (go_at_call 175;refine (vmust_yes _ _).mono ?_;rintro e w9 ⟨rfl,h9⟩;obtain rfl:=h9.symm)
               go_meet
               exact ⟨rfl,HYes.out (by simp [hG,hK,hD])⟩
   by_cases h4 : K = 4
   · subst h4
     obtain ⟨rfl,rfl,rfl,rfl,rfl,rfl⟩ : un = false ∧ ug = false ∧ us = true ∧ uk = false ∧ ud = false ∧ ok = true:=by have:=HT.out;revert this;cases un <;> cases ug <;> cases us <;> cases uk <;> cases ud <;> cases ok <;> decide
     cases hN : (N == 0)
     · go_wp2_with (go_at_call 175;refine (vmust_no _ _).mono ?_;rintro e w9 ⟨rfl,h9⟩;obtain rfl:=h9.symm)
       exact ⟨rfl,HNo.out (by simp [hN]),HBW.out⟩
     ·
       cases hG : (G == 0)
       · go_wp2_with (go_at_call 175;refine (vmust_no _ _).mono ?_;rintro e w9 ⟨rfl,h9⟩;obtain rfl:=h9.symm)
         exact ⟨rfl,HNo.out (by simp [hN,hG]),HBW.out⟩
       ·
         cases hK : ((n2 : Int) == 0)
         · go_wp2_with (go_at_call 175;refine (vmust_no _ _).mono ?_;rintro e w9 ⟨rfl,h9⟩;obtain rfl:=h9.symm)
           exact ⟨rfl,HNo.out (by simp [hN,hG,hK]),HBW.out⟩
         ·
           cases hD : ((nk : Int) == 0)
           · go_wp2_with (go_at_call 175;refine (vmust_no _ _).mono ?_;rintro e w9 ⟨rfl,h9⟩;obtain rfl:=h9.symm)
             exact ⟨rfl,HNo.out (by simp [hN,hG,hK,hD]),HBW.out⟩
           ·
             cases hd1 : (D == 1)
             · go_wp2_with (go_at_call 175;refine (vmust_yes _ _).mono ?_;rintro e w9 ⟨rfl,h9⟩;obtain rfl:=h9.symm)
               go_meet
               exact ⟨rfl,HYes.out (by simp [hN,hG,hK,hD])⟩
             · go_wp2_with (go_at_call 175;refine (vmust_yes _ _).mono ?_;rintro e w9 ⟨rfl,h9⟩;obtain rfl:=h9.symm)
               go_meet
               exact ⟨rfl,HYes.out (by simp [hN,hG,hK,hD])⟩
   by_cases h5 : K = 5
   · subst h5
     obtain ⟨rfl,rfl,rfl,rfl,rfl,rfl⟩ : un = false ∧ ug = false ∧ us = true ∧ uk = false ∧ ud = false ∧ ok = true:=by have:=HT.out;revert this;cases un <;> cases ug <;> cases us <;> cases uk <;> cases ud <;> cases ok <;> decide
     cases hN : (N == 0)
     · go_wp2_with (go_at_call 175;refine (vmust_no _ _).mono ?_;rintro e w9 ⟨rfl,h9⟩;obtain rfl:=h9.symm)
       exact ⟨rfl,HNo.out (by simp [hN]),HBW.out⟩
     ·
       cases hG : (G == 0)
       · go_wp2_with (go_at_call 175;refine (vmust_no _ _).mono ?_;rintro e w9 ⟨rfl,h9⟩;obtain rfl:=h9.symm)
         exact ⟨rfl,HNo.out (by simp [hN,hG]),HBW.out⟩
       ·
         cases hK : ((n2 : Int) == 0)
         · go_wp2_with (go_at_call 175;refine (vmust_no _ _).mono ?_;rintro e w9 ⟨rfl,h9⟩;obtain rfl:=h9.symm)
           exact ⟨rfl,HNo.out (by simp [hN,hG,hK]),HBW.out⟩
         ·
           cases hD : ((nk : Int) == 0)
           · go_wp2_with (go_at_call 175;refine (vmust_no _ _).mono ?_;rintro e w9 ⟨rfl,h9⟩;obtain rfl:=h9.symm)
             exact ⟨rfl,HNo.out (by simp [hN,hG,hK,hD]),HBW.out⟩
           ·
             cases hd1 : (D == 1)
             · go_wp2_with (go_at_call 175;refine (vmust_yes _ _).mono ?_;rintro e w9 ⟨rfl,h9⟩;obtain rfl:=h9.symm)
               go_meet
               exact ⟨rfl,HYes.out (by simp [hN,hG,hK,hD])⟩
             · go_wp2_with (go_at_call 175;refine (vmust_yes _ _).mono ?_;rintro e w9 ⟨rfl,h9⟩;obtain rfl:=h9.symm)
               go_meet
               exact ⟨rfl,HYes.out (by simp [hN,hG,hK,hD])⟩
   by_cases h6 : K = 6
   · subst h6
     obtain ⟨rfl,rfl,rfl,rfl,rfl,rfl⟩ : un = false ∧ ug = false ∧ us = false ∧ uk = false ∧ ud = true ∧ ok = true:=by have:=HT.out;revert this;cases un <;> cases ug <;> cases us <;> cases uk <;> cases ud <;> cases ok <;> decide
     cases hN : (N == 0)
     · go_wp2_with (go_at_call 175;refine (vmust_no _ _).mono ?_;rintro e w9 ⟨rfl,h9⟩;obtain rfl:=h9.symm)
       exact ⟨rfl,HNo.out (by simp [hN]),HBW.out⟩
     ·
       cases hG : (G == 0)
       · go_wp2_with (go_at_call 175;refine (vmust_no _ _).mono ?_;rintro e w9 ⟨rfl,h9⟩;obtain rfl:=h9.symm)
         exact ⟨rfl,HNo.out (by simp [hN,hG]),HBW.out⟩
       ·
         rcases hSS with hs1 | hs1
         · have hS:=empty_no hs1
           have hs2:=empty_no2 hs1
           go_wp2_with (go_at_call 175;refine (vmust_no _ _).mono ?_;rintro e w9 ⟨rfl,h9⟩;obtain rfl:=h9.symm)
           exact ⟨rfl,HNo.out (by simp [hN,hG,hS]),HBW.out⟩
         · subst hs1
           cases hK : ((n2 : Int) == 0)
           · go_wp2_with (go_at_call 175;refine (vmust_no _ _).mono ?_;rintro e w9 ⟨rfl,h9⟩;obtain rfl:=h9.symm)
             exact ⟨rfl,HNo.out (by simp [hN,hG,hK]),HBW.out⟩
           ·
             cases hd1 : (D == 1)
             · go_wp2_with (go_at_call 175;refine (vmust_yes _ _).mono ?_;rintro e w9 ⟨rfl,h9⟩;obtain rfl:=h9.symm)
               go_meet
               exact ⟨rfl,HYes.out (by simp [hN,hG,hK])⟩
             · go_wp2_with (go_at_call 175;refine (vmust_yes _ _).mono ?_;rintro e w9 ⟨rfl,h9⟩;obtain rfl:=h9.symm)
               go_meet
               exact ⟨rfl,HYes.out (by simp [hN,hG,hK])⟩
   by_cases h7 : K = 7
   · subst h7
     obtain ⟨rfl,rfl,rfl,rfl,rfl,rfl⟩ : un = false ∧ ug = false ∧ us = false ∧ uk = true ∧ ud = true ∧ ok = true:=by have:=HT.out;revert this;cases un <;> cases ug <;> cases us <;> cases uk <;> cases ud <;> cases ok <;> decide
     cases hN : (N == 0)
     · go_wp2_with (go_at_call 175;refine (vmust_no _ _).mono ?_;rintro e w9 ⟨rfl,h9⟩;obtain rfl:=h9.symm)
       exact ⟨rfl,HNo.out (by simp [hN]),HBW.out⟩
     ·
       cases hG : (G == 0)
       · go_wp2_with (go_at_call 175;refine (vmust_no _ _).mono ?_;rintro e w9 ⟨rfl,h9⟩;obtain rfl:=h9.symm)
         exact ⟨rfl,HNo.out (by simp [hN,hG]),HBW.out⟩
       ·
         rcases hSS with hs1 | hs1
         · have hS:=empty_no hs1
           have hs2:=empty_no2 hs1
           go_wp2_with (go_at_call 175;refine (vmust_no _ _).mono ?_;rintro e w9 ⟨rfl,h9⟩;obtain rfl:=h9.symm)
           exact ⟨rfl,HNo.out (by simp [hN,hG,hS]),HBW.out⟩
         · subst hs1
           cases hd1 : (D == 1)
           · go_wp2_with (go_at_call 175;refine (vmust_yes _ _).mono ?_;rintro e w9 ⟨rfl,h9⟩;obtain rfl:=h9.symm)
             go_meet
             exact ⟨rfl,HYes.out (by simp [hN,hG])⟩
           · go_wp2_with (go_at_call 175;refine (vmust_yes _ _).mono ?_;rintro e w9 ⟨rfl,h9⟩;obtain rfl:=h9.symm)
             go_meet
             exact ⟨rfl,HYes.out (by simp [hN,hG])⟩
   by_cases h8 : K = 8
   · subst h8
     obtain ⟨rfl,rfl,rfl,rfl,rfl,rfl⟩ : un = true ∧ ug = true ∧ us = false ∧ uk = false ∧ ud = false ∧ ok = true:=by have:=HT.out;revert this;cases un <;> cases ug <;> cases us <;> cases uk <;> cases ud <;> cases ok <;> decide
     rcases hSS with hs1 | hs1
     · have hS:=empty_no hs1
       have hs2:=empty_no2 hs1
       go_wp2_with (go_at_call 175;refine (vmust_no _ _).mono ?_;rintro e w9 ⟨rfl,h9⟩;obtain rfl:=h9.symm)
       exact ⟨rfl,HNo.out (by simp [hS]),HBW.out⟩
     · subst hs1
       cases hK : ((n2 : Int) == 0)
       · go_wp2_with (go_at_call 175;refine (vmust_no _ _).mono ?_;rintro e w9 ⟨rfl,h9⟩;obtain rfl:=h9.symm)
         exact ⟨rfl,HNo.out (by simp [hK]),HBW.out⟩
       ·
         cases hD : ((nk : Int) == 0)
         · go_wp2_with (go_at_call 175;refine (vmust_no _ _).mono ?_;rintro e w9 ⟨rfl,h9⟩;obtain rfl:=h9.symm)
           exact ⟨rfl,HNo.out (by simp [hK,hD]),HBW.out⟩
         ·
           cases hd1 : (D == 1)
           · go_wp2_with (go_at_call 175;refine (vmust_yes _ _).mono ?_;rintro e w9 ⟨rfl,h9⟩;obtain rfl:=h9.symm)
             go_meet
             exact ⟨rfl,HYes.out (by simp [hK,hD])⟩
           · go_wp2_with (go_at_call 175;refine (vmust_yes _ _).mono ?_;rintro e w9 ⟨rfl,h9⟩;obtain rfl:=h9.symm)
             go_meet
             exact ⟨rfl,HYes.out (by simp [hK,hD])⟩
   by_cases h9 : K = 9
   · subst h9
     obtain ⟨rfl,rfl,rfl,rfl,rfl,rfl⟩ : un = false ∧ ug = false ∧ us = true ∧ uk = true ∧ ud = true ∧ ok = true:=by have:=HT.out;revert this;cases un <;> cases ug <;> cases us <;> cases uk <;> cases ud <;> cases ok <;> decide
     cases hN : (N == 0)
     · go_wp2_with (go_at_call 175;refine (vmust_no _ _).mono ?_;rintro e w9 ⟨rfl,h9⟩;obtain rfl:=h9.symm)
       exact ⟨rfl,HNo.out (by simp [hN]),HBW.out⟩
     ·
       cases hG : (G == 0)
       · go_wp2_with (go_at_call 175;refine (vmust_no _ _).mono ?_;rintro e w9 ⟨rfl,h9⟩;obtain rfl:=h9.symm)
         exact ⟨rfl,HNo.out (by simp [hN,hG]),HBW.out⟩
       ·
         cases hd1 : (D == 1)
         · go_wp2_with (go_at_call 175;refine (vmust_no _ _).mono ?_;rintro e w9 ⟨rfl,h9⟩;obtain rfl:=h9.symm)
           exact ⟨rfl,HNo.out (by simp [hN,hG,hd1]),HBW.out⟩
         · go_wp2_with (go_at_call 175;refine (vmust_yes _ _).mono ?_;rintro e w9 ⟨rfl,h9⟩;obtain rfl:=h9.symm)
           go_meet
           exact ⟨rfl,HYes.out (by simp [hN,hG,hd1])⟩
   obtain rfl:=used_no HT.out h0 h1 h2 h3 h4 h5 h6 h7 h8 h9
   go_wp2_with (go_at_call 175;refine (vmust_no _ _).mono ?_;rintro e w9 ⟨rfl,h9⟩;obtain rfl:=h9.symm)
   exact ⟨rfl,HNo.out (by simp),HBW.out⟩
 case rest =>
   obtain ⟨rfl,HP⟩:=hcut
   have hC:=HP.out.2
   have hsh:=HSN.out HP.out.1
   have huk:=used_keys HT.out
   have hKO:=HNK.out
   clear HBW HT HSN HNo HYes HP v0 v1 v2 v4 hSS
   cases hq3 : fitsB o
   · rw [hq3] at hC HFI
     have HC:=Lh (show VEnd C (.panicked [{ v:=.iface 190 (.agg #[.int .i64 2]),recovered:=false }]) by rw [show C = 2 by rw [← hC];rfl];exact VEnd.bad (by decide))
     clear hC hq3 hsh huk hKO
     go_wp2_with fail
     refine (HFI.out _).mono ?_
     rintro e w2 ⟨rfl,hbk⟩
     obtain ⟨hl2,hBW,q0,q1,q2,q3,q4,q5,v3⟩:=chk_keep hl1 hl2 hBW hbk q0 q1 q2 q3 q4 q5 v3;clear hbk
     go_wp2_with (go_at_call 175;refine (vmust_no _ _).mono ?_;rintro e w9 ⟨rfl,h9⟩;obtain rfl:=h9.symm)
     exact ⟨rfl,HC.out,hBW⟩
   rw [hq3] at hC HFI
   rw [if_neg (by decide)] at hC
   clear hq3
   go_upto_region 5 with (first | (go_at_call 175;refine (vmust_yes _ _).mono ?_;rintro e w9 ⟨rfl,h9⟩;obtain rfl:=h9.symm) | ((go_at_call 177;refine (HFI.out _).mono ?_);rintro e w2 ⟨rfl,hbk⟩))
   obtain ⟨hl2,hBW,q0,q1,q2,q3,q4,q5,v3⟩:=chk_keep hl1 hl2 hBW hbk q0 q1 q2 q3 q4 q5 v3;clear hbk
   by_cases hq4 : longB K < s.length
   · rw [if_pos hq4] at hC
     rw [hsh,decide_eq_true hq4] at HLO
     have HC:=Lh (show VEnd C (.panicked [{ v:=.iface 190 (.agg #[.int .i64 5]),recovered:=false }]) by rw [← hC];exact VEnd.bad (by decide))
     clear hC hq4 hsh huk hKO
     go_wp2_with fail
     refine (HLO.out _).mono ?_
     rintro e w3 ⟨rfl,hbk⟩
     obtain ⟨hl2,hBW,q0,q1,q2,q3,q4,q5,v3⟩:=chk_keep hl1 hl2 hBW hbk q0 q1 q2 q3 q4 q5 v3;clear hbk
     go_wp2_with (go_at_call 175;refine (vmust_no _ _).mono ?_;rintro e w9 ⟨rfl,h9⟩;obtain rfl:=h9.symm)
     exact ⟨rfl,HC.out,hBW⟩
   rw [if_neg hq4] at hC
   rw [hsh,decide_eq_false hq4] at HLO
   clear hq4 hsh
   go_upto_region 6 with (first | (go_at_call 175;refine (vmust_yes _ _).mono ?_;rintro e w9 ⟨rfl,h9⟩;obtain rfl:=h9.symm) | ((go_at_call 178;refine (HLO.out _).mono ?_);rintro e w3 ⟨rfl,hbk⟩))
   obtain ⟨hl2,hBW,q0,q1,q2,q3,q4,q5,v3⟩:=chk_keep hl1 hl2 hBW hbk q0 q1 q2 q3 q4 q5 v3;clear hbk
   by_cases hq5 : 8191 < nk
   · rw [if_pos hq5] at hC
     have hd5 : decide ((nk : Int) ≤ 8191) = false:=by simp;omega
     have HC:=Lh (show VEnd C (.panicked [{ v:=.iface 190 (.agg #[.int .i64 6]),recovered:=false }]) by rw [← hC];exact VEnd.bad (by decide))
     clear hC hq5 huk hKO
     go_wp2_with (go_at_call 175;refine (vmust_no _ _).mono ?_;rintro e w9 ⟨rfl,h9⟩;obtain rfl:=h9.symm)
     exact ⟨rfl,HC.out,hBW⟩
   rw [if_neg hq5] at hC
   have hd5 : decide ((nk : Int) ≤ 8191) = true:=by simp;omega
   go_upto_region 7 with (go_at_call 175;refine (vmust_yes _ _).mono ?_;rintro e w9 ⟨rfl,h9⟩;obtain rfl:=h9.symm)
   go_cut [] from 11 (fun wx => Below w.heap.size w wx ∧ wx.cell? ⟨w.heap.size,5,none⟩ = some (.slice p2 nk c2) ∧ Hid (keysB o = true))
   case first =>
     have HC3:=Lh (show keysB o = false → VEnd C (.panicked [{ v:=.iface 190 (.agg #[.int .i64 3]),recovered:=false }]) from fun h => by rw [show C = 3 by rw [← hC,h];rfl];exact VEnd.bad (by decide))
     clear hC
     by_cases h5 : K = 5
     · subst h5
       obtain rfl : uk = false:=by rw [huk];decide
       have HKB:=Lh (show keysB o = nameB s by unfold keysB;rw [if_pos hKO.2.1,hKO.2.2])
       clear huk hKO
       cases hnm : nameB s
       · rw [hnm] at HKN HKB
         go_wp2_with (first | (go_at_call 179;refine (HKN.out _).mono ?_;rintro e w4 ⟨rfl,h9⟩;obtain rfl:=h9.symm) | (go_at_call 175;refine (vmust_no _ _).mono ?_;rintro e w9 ⟨rfl,h9⟩;obtain rfl:=h9.symm))
         exact ⟨rfl,HC3.out HKB.out,hBW⟩
       · rw [hnm] at HKN HKB
         go_wp2_with (first | (go_at_call 179;refine (HKN.out _).mono ?_;rintro e w4 ⟨rfl,h9⟩;obtain rfl:=h9.symm) | (go_at_call 175;refine (vmust_yes _ _).mono ?_;rintro e w9 ⟨rfl,h9⟩;obtain rfl:=h9.symm))
         go_meet
         exact ⟨hBW,q5,Lh HKB.out⟩
     · have e5 : (K != 5) = true:=by simpa using h5
       by_cases h79 : K = 7 ∨ K = 9
       · obtain rfl : uk = true:=by rw [huk];exact decide_eq_true h79
         have HKF:=Lh (HKE.out _ hBW h79)
         have h9b : w.heap.size < w3.heap.size:=by omega
         clear huk hKO h79 HKE h5
         cases hkb : keysB o
         · rw [hkb] at HKF
           go_wp2_with (first | ((go_at_call 180;refine (HKF.out).mono ?_);rintro e w4 ⟨rfl,hbk⟩) | (go_at_call 175;refine (vmust_no _ _).mono ?_;rintro e w9 ⟨rfl,h9⟩;obtain rfl:=h9.symm))
           exact ⟨rfl,HC3.out hkb,hBW.trans (hbk.mono hBW.size)⟩
         · rw [hkb] at HKF
           go_wp2_with (first | ((go_at_call 180;refine (HKF.out).mono ?_);rintro e w4 ⟨rfl,hbk⟩) | (go_at_call 175;refine (vmust_yes _ _).mono ?_;rintro e w9 ⟨rfl,h9⟩;obtain rfl:=h9.symm))
           go_meet
           exact ⟨hBW.trans (hbk.mono hBW.size),(World.cell?_of_block (a:=⟨w.heap.size,5,none⟩) (hbk.block _ h9b)).trans q5,Lh hkb⟩
       · obtain rfl : uk = false:=by rw [huk];exact decide_eq_false h79
         have HKB:=Lh (show keysB o = true by
           unfold keysB
           rw [if_neg (by rw [hKO.2.1];exact h5),if_pos ⟨by rw [hKO.2.1];omega,by rw [hKO.2.1];omega⟩])
         clear huk hKO h79 h5
         go_wp2_with (go_at_call 175;refine (vmust_yes _ _).mono ?_;rintro e w9 ⟨rfl,h9⟩;obtain rfl:=h9.symm)
         go_meet
         exact ⟨hBW,q5,HKB⟩
   case rest =>
     clear q0 q1 q2 q3 q4 q5 hBW hl2
     obtain ⟨hBW,q5,HKB⟩:=hcut
     rw [HKB.out] at hC
     have HC:=Lh (show firstBad (o.kids.map (checkB n)) = C from hC)
     have HNK:=Lh hKO
     have HSX:=Lh (And.intro HRW.out.2.2 hBW)
     clear hC hKO huk HKB HFI HLO HKN HKE
     go_wp2
     clear q5
     go_loopw [107] (fun i wr => ∃ k : Nat,k ≤ nk ∧ i = .int .i64 k ∧ Below w.heap.size w wr ∧ Hid (∀ x ∈ o.kids.take k,checkB n x = 0)) (fun i _ => nk - (intOf i).toNat)
     case atStart => exact ⟨0,Nat.zero_le _,rfl,hBW,Lh (by simp)⟩
     case round =>
       obtain ⟨k,hk,rfl,hb,HA⟩:=hrel
       by_cases hlt : k < nk
       · have hRw : RowAt S d wr (.slice p2 nk c2) o.kids := by
           have:=HRW.out.1.kept (fun b h => hb.block b (HRW.out.2.2 b h));rw [HNK.out.1] at this;exact this
         obtain ⟨b,off,rfl⟩ : ∃ b off,p2 = some ⟨b,off,none⟩:=by
           rcases hRw with ⟨e,_⟩ | ⟨b,off,c,e,_⟩
           · have:=HNK.out.1;rw [e] at this;simp at this;omega
           · cases e;exact ⟨_,_,rfl⟩
         obtain ⟨x,p3,n3,e3,p4,n4,e4,hx,hxm,s1,O1,f0,f1,f2,f3,f4,f5⟩:=row_kid hRw HNK.out.1 k hlt
         have hS2 : ∀ b,S b → b < wr.heap.size:=fun b h => Nat.lt_of_lt_of_le (HRW.out.2.2 b h) hb.size
         have HI:=Lh (fun (W : World) (hW : Below wr.heap.size wr W) => HDN.out ▸ IH d W _ x (O1.kept (fun b h => hW.block b (hS2 b h)) d) (HRW.out.2.1 x hxm) (fun b h => Nat.lt_of_lt_of_le (hS2 b h) hW.size))
         have htk : o.kids.take (k + 1) = o.kids.take k ++ [x]:=by
           have hk' : k < o.kids.length:=by rw [HNK.out.1];exact hlt
           rw [List.take_succ_eq_append_getElem hk',← hx];simp [List.getD,hk']
         have hdr : o.kids = o.kids.take k ++ x :: o.kids.drop (k + 1):=by
           have hk' : k < o.kids.length:=by rw [HNK.out.1];exact hlt
           conv => lhs;rw [← List.take_append_drop k o.kids]
           rw [List.drop_eq_getElem_cons hk',← hx];simp [List.getD,hk']
         have HTT:=Lh (And.intro htk hdr)
         unfold objCells at HI
         obtain ⟨y,hy⟩ : ∃ y,checkB n x = y:=⟨_,rfl⟩
         rw [hy] at HI
         have HY:=Lh hy
         have L1:=hS2 b s1
         have hszr:=hb.size
         clear hRw hx hxm O1 hS2 htk hdr hy
         go_wp2_with fail
         refine (HI.out _ bel).mono ?_
         rintro e w4 ⟨⟨hy0,rfl⟩ | ⟨hy0,rfl⟩,hb4⟩
         · have HY0:=Lh hy0
           clear hy0
           go_wp2
           go_roundw
           case rel => exact ⟨k + 1,by omega,by go_num,bel,Lh (fun z hz => by
             rw [HTT.out.1,List.mem_append] at hz
             rcases hz with hz | hz
             · exact HA.out z hz
             · simp only [List.mem_singleton] at hz;subst hz;rw [HY.out];exact HY0.out)⟩
           case measure => simp [intOf];omega
         · have HR1 := Lib.hid (show C = y by
             rw [← HC.out,HTT.out.2,List.map_append,List.map_cons,HY.out]
             exact firstBad_snoc (fun z hz => by obtain ⟨u,hu,rfl⟩:=List.mem_map.1 hz;exact HA.out u hu) hy0 _)
           have HY0:=Lh hy0
           clear hy0
           go_wp2
           exact ⟨rfl,by rw [HR1.out];exact VEnd.bad HY0.out,bel⟩
       · have HR1 := Lib.hid (show C = 0 by
           rw [← HC.out]
           have hkn : k = nk:=by omega
           refine firstBad_zero fun z hz => ?_
           obtain ⟨u,hu,rfl⟩:=List.mem_map.1 hz
           refine HA.out u ?_
           rw [List.take_of_length_le (by rw [HNK.out.1];omega)];exact hu)
         go_wp2
         go_end0
         exact ⟨by rw [HR1.out];exact VEnd.good,hb⟩
theorem vcheck_in (S : Nat → Prop) : ∀ n,n ≤ 24 → VCheck S n
 | 0,_ => vcheck_zero S
 | n + 1,h => vcheck_step S n (by omega) (vcheck_in S n (by omega))
end Go.Proofs.YtfgdhcemidlnfaaGreatDoor
