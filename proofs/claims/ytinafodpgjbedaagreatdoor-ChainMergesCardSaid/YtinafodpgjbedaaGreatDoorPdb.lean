/- Parts of the proof: Unhex Name Esc Str Bld Text Word Whole Face FixA FixB. -/
import Derived.Test.YtinafodpgjbedaaGreatDoorPda
import Derived.Deep.RegionWith
import Derived.Lib.IndexAny
import Derived.Recover
import Derived.Defers
set_option linter.all false
set_option maxRecDepth 100000
set_option maxHeartbeats 8000000
namespace Go.Proofs.YtinafodpgjbedaaGreatDoor
open Go.RowKit Fo
theorem mk1 : ∀ w : World,(Instr.makeSlice 215 (.int .i64 0) (.int .i64 1)).run Tryz.prog w = .ok (.slice (some ⟨w.heap.size,0,none⟩) 0 1) (w.alloc (.cells #[.int .u8 0] 5)):=fun _ => by kernel_rfl
theorem unhex_bad (s : ByteArray) (hsz : s.size = 2) (p0 : 0 < s.size) (p1 : 1 < s.size) (h : hexv s[0] < (0 : Int) ∨ hexv s[1] < (0 : Int)) (w : World) :
   Calls Tryz.prog 158 #[.string s] w fun e w' => e = .returned (.tuple #[.string ⟨#[]⟩,.int .i64 3]) ∧ Below w.heap.size w w':=by
 have hmk:=mk1
 unfold hexv at h
 go_enter Tryz.func158,Tryz.ntmps158
 go_wp2
 refine wp_loop_rounds 1 ?_
 rw [rounds_succ]
 go_wp2
 go_quiet ((go_at_call 156;exact Calls.quiet_of_same (digit_any _ (UInt8.toNat_lt _) _)))
 go_wp2
 all_goals (try (exfalso;omega))
 all_goals go_ret2
 all_goals exact ⟨rfl,bel⟩
def cellByte : Option Value → UInt8
 | some (.int .u8 n) => UInt8.ofNat n.toNat
 | _ => 0
def isByte : Option Value → Bool
 | some (.int .u8 _) => true
 | _ => false
theorem conv_one (w : World) (g : Nat) (h : isByte (w.cell? ⟨g,0,none⟩) = true) : (Go.convert 215 9 (.slice (some ⟨g,0,none⟩) 1 1)).run Tryz.prog w = .ok (.string ⟨#[cellByte (w.cell? ⟨g,0,none⟩)]⟩) w:=by
 obtain ⟨n,hn⟩ : ∃ n,w.cell? ⟨g,0,none⟩ = some (.int .u8 n):=by
   revert h;generalize w.cell? ⟨g,0,none⟩ = x;intro h
   unfold isByte at h;split at h
   · exact ⟨_,rfl⟩
   · simp at h
 rw [run_convert_bytes_string w _ _ 5 _ _ _ Tryz.underlying215 Tryz.underlying5 Tryz.underlying9]
 rw [run_bytesToString w _ _ _ [n],hn]
 · rfl
 · have hc := run_loadCells_list (P := Tryz.prog) (w := w) ⟨g, 0, none⟩ [Value.int .u8 n] (by
     intro j u hj
     rcases j with _ | j
     · simp at hj;subst hj;exact hn
     · simp at hj)
   simpa using hc
theorem nib : ∀ d,d < 16 → ∀ e,e < 16 → bits BinOp.or IntKind.i64 (wrap64 ((d : Nat) * 16)) (e : Nat) % 256 = 16 * (d : Int) + e:=by decide +kernel
theorem nib_int {d e : Int} (h0 : 0 ≤ d) (h1 : d < 16) (h2 : 0 ≤ e) (h3 : e < 16) : bits BinOp.or IntKind.i64 (wrap64 (d * 16)) e % 256 = 16 * d + e:=by
 have:=nib d.toNat (by omega) e.toNat (by omega)
 rwa [Int.toNat_of_nonneg h0,Int.toNat_of_nonneg h2] at this
theorem digit_lt (c : Nat) : digit c < 16:=by unfold digit;repeat' split <;> omega
theorem unhex_good (s : ByteArray) (hsz : s.size = 2) (p0 : 0 < s.size) (p1 : 1 < s.size) (ha : (0 : Int) ≤ hexv s[0]) (hb : (0 : Int) ≤ hexv s[1]) (w : World) :
   Calls Tryz.prog 158 #[.string s] w fun e w' => e = .returned (.tuple #[.string ⟨#[UInt8.ofNat ((16 : Int) * hexv s[0] + hexv s[1]).toNat]⟩,.int .i64 0]) ∧ Below w.heap.size w w':=by
 have hmk:=mk1
 have h0 : decide (digit s[0].toNat < 0) = false:=by unfold hexv at ha;simpa using ha
 have h1 : decide (digit s[1].toNat < 0) = false:=by unfold hexv at hb;simpa using hb
 unfold hexv at *
 go_enter Tryz.func158,Tryz.ntmps158
 go_wp2
 refine wp_loop_rounds 2 ?_
 rw [rounds_succ]
 go_wp2
 go_quiet ((go_at_call 156;exact Calls.quiet_of_same (digit_any _ (UInt8.toNat_lt _) _)))
 go_wp2_with fail
 rw [rounds_succ]
 go_wp2
 rw [conv_one _ _ (by simp [isByte,go_sem])]
 go_wp2
 go_ret2
 refine ⟨?_,bel⟩
 have hn:=nib_int ha (digit_lt s[0].toNat) hb (digit_lt s[1].toNat)
 simp [cellByte,hn,go_sem]
theorem ex2 (s : ByteArray) (k : Nat) (h : k + 3 ≤ s.size) : (s.extract (k + 1) (k + 3)).size = 2:=by simp;omega
theorem ex2_get (s : ByteArray) (k j : Nat) (h : k + 3 ≤ s.size) (hj : j < (s.extract (k + 1) (k + 3)).size) (hj2 : k + 1 + j < s.size) : (s.extract (k + 1) (k + 3))[j] = s[k + 1 + j]:=by
 exact ByteArray.getElem_extract ..
theorem hexAt_bad (s : ByteArray) (k : Nat) (h : k + 3 ≤ s.size) (hx : hexv s[k + 1] < (0 : Int) ∨ hexv s[k + 2] < (0 : Int)) (w : World) :
   Calls Tryz.prog 158 #[.string (s.extract (k + 1) (k + 3))] w fun e w' => e = .returned (.tuple #[.string ⟨#[]⟩,.int .i64 3]) ∧ Below w.heap.size w w':=by
 refine unhex_bad _ (ex2 s k h) (by rw [ex2 s k h];decide) (by rw [ex2 s k h];decide) ?_ w
 rw [ex2_get s k 0 h _ (by omega),ex2_get s k 1 h _ (by omega)];exact hx
theorem hexAt_good (s : ByteArray) (k : Nat) (c : UInt8) (h : k + 3 ≤ s.size) (h1 : (0 : Int) ≤ hexv s[k + 1]) (h2 : (0 : Int) ≤ hexv s[k + 2]) (hc : UInt8.ofNat ((16 : Int) * hexv s[k + 1] + hexv s[k + 2]).toNat = c) (w : World) :
   Calls Tryz.prog 158 #[.string (s.extract (k + 1) (k + 3))] w fun e w' => e = .returned (.tuple #[.string ⟨#[c]⟩,.int .i64 0]) ∧ Below w.heap.size w w':=by
 have hA : (s.extract (k + 1) (k + 3))[0]'(by rw [ex2 s k h];decide) = s[k + 1]:=ex2_get s k 0 h _ (by omega)
 have hB : (s.extract (k + 1) (k + 3))[1]'(by rw [ex2 s k h];decide) = s[k + 2]:=ex2_get s k 1 h _ (by omega)
 have:=unhex_good _ (ex2 s k h) (by rw [ex2 s k h];decide) (by rw [ex2 s k h];decide) (by rw [hA];exact h1) (by rw [hB];exact h2) w
 rw [hA,hB,hc] at this
 exact this
open Go.RowKit Fo
def tokR (a : Nat) : Res Tok → Value
 | .bad e => .tuple #[.agg #[.int .i64 0,.int .i64 0,.int .i64 0,.int .i64 0,.string ⟨#[]⟩],.int .i64 e]
 | .good t => .tuple #[.agg #[.int .i64 t.kind,.int .i64 a,.int .i64 (a + t.len : Nat),.int .i64 t.n,.string ⟨t.s.toArray⟩],.int .i64 0]
def cutL (s : ByteArray) (k tt : Nat) : L:=(s.data.toList.drop k).take (tt - k)
theorem cutL_cons (s : ByteArray) (k tt : Nat) (h : k < tt) (ht : tt ≤ s.size) : cutL s k tt = s[k] :: cutL s (k + 1) tt:=by
 unfold cutL
 rw [drop_get s k (by omega),show tt - k = (tt - (k + 1)) + 1 by omega,List.take_succ_cons]
theorem cutL_nil (s : ByteArray) (k : Nat) : cutL s k k = []:=by simp [cutL]
theorem nameS_end {acc : L} : nameS acc 0 [] = .good acc:=by simp [nameS]
theorem nameS_plain {acc : L} {c : UInt8} {l : L} (h : ¬ c = 35) : nameS acc 0 (c :: l) = nameS (acc ++ [c]) 0 l:=by simp [nameS,h]
theorem nameS_short {acc : L} {s : ByteArray} {k tt : Nat} (h : k < tt) (ht : tt ≤ s.size) (hc : s[k] = 35) (h2 : tt ≤ k + 2) : nameS acc 0 (cutL s k tt) = .bad 3:=by
 rw [cutL_cons s k tt h ht,hc]
 have hl : (cutL s (k + 1) tt).length ≤ 1:=by simp [cutL];omega
 cases hx : cutL s (k + 1) tt with
 | nil => simp [nameS]
 | cons a l =>
   cases l with
   | nil => simp [nameS]
   | cons b l => rw [hx] at hl;simp at hl
theorem nameS_bad {acc : L} {s : ByteArray} {k tt : Nat} (h : k + 2 < tt) (ht : tt ≤ s.size) (hc : s[k] = 35) (h2 : hexv s[k + 1] < (0 : Int) ∨ hexv s[k + 2] < (0 : Int) ∨ (16 : Int) * hexv s[k + 1] + hexv s[k + 2] = (0 : Int)) : nameS acc 0 (cutL s k tt) = .bad 3:=by
 rw [cutL_cons s k tt (by omega) ht,hc,cutL_cons s (k + 1) tt (by omega) ht,cutL_cons s (k + 2) tt (by omega) ht]
 simp [nameS,h2]
theorem nameS_hex {acc : L} {s : ByteArray} {k tt : Nat} (h : k + 2 < tt) (ht : tt ≤ s.size) (hc : s[k] = 35) (h2 : ¬ (hexv s[k + 1] < (0 : Int) ∨ hexv s[k + 2] < (0 : Int) ∨ (16 : Int) * hexv s[k + 1] + hexv s[k + 2] = (0 : Int))) :
   nameS acc 0 (cutL s k tt) = nameS (acc ++ [UInt8.ofNat ((16 : Int) * hexv s[k + 1] + hexv s[k + 2]).toNat]) 0 (cutL s (k + 3) tt):=by
 rw [cutL_cons s k tt (by omega) ht,hc,cutL_cons s (k + 1) tt (by omega) ht,cutL_cons s (k + 2) tt (by omega) ht]
 simp [nameS,h2]
theorem name_in (s : ByteArray) (a : Nat) (ha : a < s.size) (hs : s.size ≤ 140737488355327) (w : World) :
   Calls Tryz.prog 125 #[.agg #[.string s,.int .i64 a]] w fun e w' => e = .returned (tokR a (nameT (s.data.toList.drop (a + 1)))) ∧ Below w.heap.size w w':=by
 have hm : s.size ≤ maxLen:=by unfold maxLen;omega
 obtain ⟨N,hN⟩ : ∃ N,regN (s.data.toList.drop (a + 1)) = N:=⟨_,rfl⟩
 have hNle : a + 1 + N ≤ s.size:=by have:=regN_le (s.data.toList.drop (a + 1));rw [hN] at this;simp at this;omega
 have hT : nameT (s.data.toList.drop (a + 1)) = nameOf N (nameS [] 0 (cutL s (a + 1) (a + 1 + N))):=by
   unfold nameT cutL;rw [hN,show a + 1 + N - (a + 1) = N by omega]
 rw [hT];clear hT
 obtain ⟨T,hT⟩ : ∃ T,nameS [] 0 (cutL s (a + 1) (a + 1 + N)) = T:=⟨_,rfl⟩
 rw [hT]
 have HT:=Lh hT;clear hT
 have hrun:=run_in s a (a + 1) (by omega) hm
 rw [hN] at hrun
 have HR:=Lh hrun;clear hrun
 have HN:=Lh hN;clear hN
 go_enter Tryz.func125,Tryz.ntmps125
 go_wp2_with (go_at_call 157;refine (HR.out _).mono ?_;rintro e w1 ⟨rfl,hb⟩;obtain ⟨hc,hf⟩:=bcell hb;have hz:=hb.size;simp at hz)
 have hB1 : w.heap.size + 2 ≤ w1.heap.size:=by omega
 go_loopw [5,6] (fun v i wr => ∃ (k : Nat) (acc : L),a + 1 ≤ k ∧ k ≤ a + 1 + N ∧ i = .int .i64 k ∧ ownB wr (w.heap.size + 2) v acc ∧ acc.length ≤ k ∧ Below (w.heap.size + 2) w1 wr ∧ Hid (nameS acc 0 (cutL s k (a + 1 + N)) = T)) (fun _ i _ => s.size - (intOf i).toNat)
 case atStart => exact ⟨a + 1,[],by omega,by omega,by go_num,ownB_nil _ _,by simp,Below.refl _ _,HT⟩
 case round =>
   obtain ⟨k,acc,hk1,hk2,rfl,hown,hacc,hbr,H⟩:=hrel
   have hBr : w.heap.size + 2 ≤ wr.heap.size:=Nat.le_trans hB1 hbr.size
   obtain ⟨hcr,hfr⟩:=bcellB hbr
   clear HT
   by_cases hlt : k < a + 1 + N
   · by_cases h35 : s[k] = 35
     · have t35 : ((s[k].toNat : Int) == 35) = true:=eq_yes (n:=35) (by decide) h35
       by_cases h2 : a + 1 + N ≤ k + 2
       · have HX:=Lh (H.out.symm.trans (nameS_short hlt (by omega) h35 h2))
         clear h35 H
         go_wp2_with (go_at_call 121;refine (refused_in _ _).mono ?_;rintro e w2 ⟨rfl,hb2⟩;replace hb2:=hbr.trans (hb2.mono hBr);obtain ⟨hc2,hf2⟩:=bcellB hb2)
         refine bodyPost_ret (v:=.tuple #[.agg #[.int .i64 0,.int .i64 0,.int .i64 0,.int .i64 0,.string ⟨#[]⟩],.int .i64 3]) (by simp [results,Tryz.results125,go_sem,hc2,hf2,hc,hf]) rfl ⟨by rw [HX.out];rfl,bel⟩
       · have h3 : k + 3 ≤ s.size:=by omega
         by_cases hbad : hexv s[k + 1] < (0 : Int) ∨ hexv s[k + 2] < (0 : Int)
         · have HX:=Lh (H.out.symm.trans (nameS_bad (by omega) (by omega) h35 (by rcases hbad with h | h <;> simp [h])))
           have HB:=Lh hbad
           clear h35 H hbad
           go_wp2_with (first | (go_at_call 158;refine (hexAt_bad s k h3 HB.out _).mono ?_;rintro e w2 ⟨rfl,hb2⟩;replace hb2:=hbr.trans (hb2.mono hBr);have hB2:=Nat.le_trans hB1 hb2.size;obtain ⟨hc2,hf2⟩:=bcellB hb2) | (go_at_call 121;refine (refused_in _ _).mono ?_;rintro e w3 ⟨rfl,hb3⟩;replace hb3:=hb2.trans (hb3.mono hB2);obtain ⟨hc3,hf3⟩:=bcellB hb3))
           refine bodyPost_ret (v:=.tuple #[.agg #[.int .i64 0,.int .i64 0,.int .i64 0,.int .i64 0,.string ⟨#[]⟩],.int .i64 3]) (by simp [results,Tryz.results125,go_sem,hc3,hf3,hc,hf]) rfl ⟨by rw [HX.out];rfl,bel⟩
         · have hg1 : (0 : Int) ≤ hexv s[k + 1]:=by omega
           have hg2 : (0 : Int) ≤ hexv s[k + 2]:=by omega
           by_cases hzero : (16 : Int) * hexv s[k + 1] + hexv s[k + 2] = (0 : Int)
           · have HX:=Lh (H.out.symm.trans (nameS_bad (by omega) (by omega) h35 (.inr (.inr hzero))))
             have HB:=Lh (show UInt8.ofNat ((16 : Int) * hexv s[k + 1] + hexv s[k + 2]).toNat = 0 by rw [hzero];rfl)
             have HG:=Lh (And.intro hg1 hg2)
             clear h35 H hbad hzero hg1 hg2
             go_wp2_with (first | (go_at_call 158;refine (hexAt_good s k 0 h3 HG.out.1 HG.out.2 HB.out _).mono ?_;rintro e w2 ⟨rfl,hb2⟩;replace hb2:=hbr.trans (hb2.mono hBr);have hB2:=Nat.le_trans hB1 hb2.size;obtain ⟨hc2,hf2⟩:=bcellB hb2) | (go_at_call 121;refine (refused_in _ _).mono ?_;rintro e w3 ⟨rfl,hb3⟩;replace hb3:=hb2.trans (hb3.mono hB2);obtain ⟨hc3,hf3⟩:=bcellB hb3))
             refine bodyPost_ret (v:=.tuple #[.agg #[.int .i64 0,.int .i64 0,.int .i64 0,.int .i64 0,.string ⟨#[]⟩],.int .i64 3]) (by simp [results,Tryz.results125,go_sem,hc3,hf3,hc,hf]) rfl ⟨by rw [HX.out];rfl,bel⟩
           · have hv0:=digit_lt s[k + 1].toNat
             have hv1:=digit_lt s[k + 2].toNat
             obtain ⟨c,hcc⟩ : ∃ c,UInt8.ofNat ((16 : Int) * hexv s[k + 1] + hexv s[k + 2]).toNat = c:=⟨_,rfl⟩
             have hcn : ¬ c = 0:=by
               intro h;rw [← hcc] at h
               have h2:=congrArg UInt8.toNat h
               unfold hexv at *
               simp at h2;omega
             have HX:=Lh (H.out.symm.trans ((nameS_hex (by omega) (by omega) h35 (by omega)).trans (by rw [hcc])))
             have HB:=Lh hcc
             have HG:=Lh (And.intro hg1 hg2)
             clear h35 H hbad hzero hg1 hg2 hv0 hv1 hcc
             have hcn2 : (c == 0) = false:=by simpa using hcn
             clear hcn
             have hx0 : ∀ h,(ByteArray.mk #[c])[0]'h = c:=fun _ => rfl
             go_wp2_with (first | (go_at_call 158;refine (hexAt_good s k c h3 HG.out.1 HG.out.2 HB.out _).mono ?_;rintro e w2 ⟨rfl,hb2⟩;have hown2:=ownB_below hown hb2;replace hb2:=hbr.trans (hb2.mono hBr);have hB2:=Nat.le_trans hB1 hb2.size;obtain ⟨hc2,hf2⟩:=bcellB hb2) | (at_builtin;go_must (refine append1 rfl _ _ rfl (w.heap.size + 2) _ acc _ hown2 rfl rfl (by omega) hB2 (by omega) (by have:=UInt8.toNat_lt c;omega) ?_);intro v3 w3 hown3 hb3 hz3;replace hb3:=hb2.trans hb3))
             go_roundw
             case rel => exact ⟨k + 3,acc ++ [c],by omega,by omega,by go_num,by simpa using hown3,by simp;omega,hb3,HX.out.symm⟩
             case measure => simp [intOf];omega
     · have t35 : ((s[k].toNat : Int) == 35) = false:=eq_no (n:=35) (by decide) h35
       have HX:=Lh (H.out.symm.trans ((congrArg _ (cutL_cons s k _ hlt (by omega))).trans (nameS_plain h35)))
       clear h35 H
       go_wp2_with (at_builtin;go_must (refine append1 rfl _ _ rfl (w.heap.size + 2) _ acc _ hown rfl rfl (by omega) hBr (by omega) (by have:=UInt8.toNat_lt s[k];omega) ?_);intro v3 w3 hown3 hb3 hz3;replace hb3:=hbr.trans hb3)
       go_roundw
       case rel => exact ⟨k + 1,acc ++ [s[k]],by omega,by omega,by go_num,by simpa using hown3,by simp;omega,hb3,HX.out.symm⟩
       case measure => simp [intOf];omega
   · have hk : k = a + 1 + N:=by omega
     have hres : T = .good acc:=by have:=H.out;rw [hk,cutL_nil,nameS_end] at this;exact this.symm
     have HX:=Lh hres
     have hcv:=convB hown
     clear H hk hres
     by_cases h127 : acc.length ≤ 127
     · go_wp2_with (go_at_call 155;refine (told_in s a 4 _ _ 127 (by unfold maxLen;simp [ByteArray.size];omega) _ (by simpa [ByteArray.size] using h127)).mono ?_;rintro e w2 ⟨rfl,hb2⟩;replace hb2:=hbr.trans (hb2.mono hBr);obtain ⟨hc2,hf2⟩:=bcellB hb2)
       refine bodyPost_ret (v:=.tuple #[.agg #[.int .i64 4,.int .i64 a,.int .i64 (a + 1 + N),.int .i64 0,.string ⟨acc.toArray⟩],.int .i64 0]) (by simp [results,Tryz.results125,go_sem,hc2,hf2,hc,hf]) rfl ⟨?_,bel⟩
       rw [HX.out];simp only [nameOf,told,if_neg (show ¬ 127 < acc.length by omega),tokR]
       congr;omega
     · go_wp2_with (go_at_call 155;refine (told_long s a 4 _ _ 127 (by unfold maxLen;simp [ByteArray.size];omega) _ (by simp [ByteArray.size];omega)).mono ?_;rintro e w2 ⟨rfl,hb2⟩;replace hb2:=hbr.trans (hb2.mono hBr);obtain ⟨hc2,hf2⟩:=bcellB hb2)
       refine bodyPost_ret (v:=.tuple #[.agg #[.int .i64 0,.int .i64 0,.int .i64 0,.int .i64 0,.string ⟨#[]⟩],.int .i64 5]) (by simp [results,Tryz.results125,go_sem,hc2,hf2,hc,hf]) rfl ⟨?_,bel⟩
       rw [HX.out];simp only [nameOf,told,if_pos (show 127 < acc.length by omega),tokR]
open Go.RowKit Fo
theorem lineN_pos (c : UInt8) (l : L) : 1 ≤ lineN (c :: l):=by
 rw [lineN_cons];(repeat' split) <;> omega
theorem end_yes (s : ByteArray) (a p : Nat) (hp : p < s.size) (hs : s.size ≤ maxLen) (h : eol s[p] = true) (w : World) :
   Calls Tryz.prog 159 #[.agg #[.string s,.int .i64 a],.int .i64 p] w fun e w' => e = .returned (.tuple #[.int .i64 (p + lineN (s.data.toList.drop p) : Nat),.bool true]) ∧ Below w.heap.size w w':=by
 have hs':=Lh hs
 unfold maxLen at hs
 by_cases h13 : s[p] = 13
 · have t1 : ((s[p].toNat : Int) == 13) = true:=eq_yes (n:=13) (by decide) h13
   clear h13 h
   go_enter Tryz.func159,Tryz.ntmps159
   go_wp2_with (go_at_call 196;refine (line_in _ _ (by omega) hs'.out _).mono ?_;rintro e w' ⟨rfl,rfl⟩)
   go_ret2
   exact ⟨by simp,bel⟩
 · have t1 : ((s[p].toNat : Int) == 13) = false:=eq_no (n:=13) (by decide) h13
   have t2 : ((s[p].toNat : Int) == 10) = true:=eq_yes (n:=10) (by decide) (by simp [eol] at h;simpa [h13] using h)
   clear h13 h
   go_enter Tryz.func159,Tryz.ntmps159
   go_wp2_with (go_at_call 196;refine (line_in _ _ (by omega) hs'.out _).mono ?_;rintro e w' ⟨rfl,rfl⟩)
   go_ret2
   exact ⟨by simp,bel⟩
theorem end_no (s : ByteArray) (a p : Nat) (hp : p < s.size) (hs : s.size ≤ maxLen) (h : eol s[p] = false) (w : World) :
   Calls Tryz.prog 159 #[.agg #[.string s,.int .i64 a],.int .i64 p] w fun e w' => e = .returned (.tuple #[.int .i64 p,.bool false]) ∧ Below w.heap.size w w':=by
 unfold maxLen at hs
 have t1 : ((s[p].toNat : Int) == 13) = false:=eq_no (n:=13) (by decide) (by intro h2;rw [h2] at h;simp [eol] at h)
 have t2 : ((s[p].toNat : Int) == 10) = false:=eq_no (n:=10) (by decide) (by intro h2;rw [h2] at h;simp [eol] at h)
 clear h
 go_enter Tryz.func159,Tryz.ntmps159
 go_wp2
 go_ret2
 exact ⟨rfl,bel⟩
abbrev letters : L:=[110,114,116,98,102]
theorem ix_as (c : UInt8) (k : Int) (h : Lib.indexByte letters c = k) (w : World) :
   Calls Tryz.prog 147 #[.string ⟨#[110,114,116,98,102]⟩,.int .u8 c.toNat] w fun e w' => e = .returned (.int .i64 k) ∧ w' = w:=by
 have:=Tryz.strings_IndexByte ⟨#[110,114,116,98,102]⟩ c.toNat w
 rw [show ((c.toNat : Int)).toNat.toUInt8 = c by simp,show (ByteArray.mk #[110,114,116,98,102]).data.toList = letters from rfl,h] at this
 exact this
def escO (c : UInt8) (x : Nat × Nat) : L × Nat:=if x.2 = 0 then ([c],1) else ([UInt8.ofNat x.1],x.2)
theorem esc_cases (c : UInt8) (l : L) :
   (c = 110 ∧ Lib.indexByte letters c = 0 ∧ esc (c :: l) = ([10],1)) ∨ (c = 114 ∧ Lib.indexByte letters c = 1 ∧ esc (c :: l) = ([13],1)) ∨ (c = 116 ∧ Lib.indexByte letters c = 2 ∧ esc (c :: l) = ([9],1)) ∨
   (c = 98 ∧ Lib.indexByte letters c = 3 ∧ esc (c :: l) = ([8],1)) ∨ (c = 102 ∧ Lib.indexByte letters c = 4 ∧ esc (c :: l) = ([12],1)) ∨
   (Lib.indexByte letters c = -1 ∧ eol c = true ∧ esc (c :: l) = ([],lineN (c :: l))) ∨
   (Lib.indexByte letters c = -1 ∧ eol c = false ∧ esc (c :: l) = escO c (octN 3 0 0 (c :: l))):=by
 have hix : ∀ c : UInt8,(c == 110 || c == 114 || c == 116 || c == 98 || c == 102) = true ∨ Lib.indexByte letters c = -1:=by
   intro c
   have:=u8_all (fun c => (c == 110 || c == 114 || c == 116 || c == 98 || c == 102) || (Lib.indexByte letters c == -1)) (by decide +kernel) c
   simpa using this
 by_cases h1 : c = 110
 · subst h1;left;exact ⟨rfl,by decide +kernel,by simp [esc]⟩
 by_cases h2 : c = 114
 · subst h2;right;left;exact ⟨rfl,by decide +kernel,by simp [esc]⟩
 by_cases h3 : c = 116
 · subst h3;right;right;left;exact ⟨rfl,by decide +kernel,by simp [esc]⟩
 by_cases h4 : c = 98
 · subst h4;right;right;right;left;exact ⟨rfl,by decide +kernel,by simp [esc]⟩
 by_cases h5 : c = 102
 · subst h5;right;right;right;right;left;exact ⟨rfl,by decide +kernel,by simp [esc]⟩
 have h6 : Lib.indexByte letters c = -1:=by
   rcases hix c with h | h
   · simp [h1,h2,h3,h4,h5] at h
   · exact h
 right;right;right;right;right
 cases he : eol c
 · right;exact ⟨h6,rfl,by unfold escO;simp [esc,h1,h2,h3,h4,h5,he]⟩
 · left;exact ⟨h6,rfl,by simp [esc,h1,h2,h3,h4,h5,he]⟩
theorem esc_letter (s : ByteArray) (a p : Nat) (hp : p < s.size) (hs : s.size ≤ 140737488355327) (k : Int) (x : L × Nat) (hk : k = 0 ∨ k = 1 ∨ k = 2 ∨ k = 3 ∨ k = 4) (hx : Lib.indexByte letters s[p] = k) (w : World) :
   Calls Tryz.prog 161 #[.agg #[.string s,.int .i64 a],.int .i64 p] w fun e w' => e = .returned (.tuple #[.string ⟨((if k = 0 then [10] else if k = 1 then [13] else if k = 2 then [9] else if k = 3 then [8] else [12]) : L).toArray⟩,.int .i64 (p + 1)]) ∧ Below w.heap.size w w':=by
 have hix:=Lh hx
 clear hx
 rcases hk with rfl | rfl | rfl | rfl | rfl
 all_goals
   go_enter Tryz.func161,Tryz.ntmps161
   go_wp2_with (go_at_call 147;refine (ix_as _ _ hix.out _).mono ?_;rintro e w' ⟨rfl,rfl⟩)
   go_ret2
   refine ⟨?_,bel⟩
   simp
 all_goals rfl
theorem esc_eol (s : ByteArray) (a p : Nat) (hp : p < s.size) (hs : s.size ≤ 140737488355327) (hx : Lib.indexByte letters s[p] = -1) (he : eol s[p] = true) (w : World) :
   Calls Tryz.prog 161 #[.agg #[.string s,.int .i64 a],.int .i64 p] w fun e w' => e = .returned (.tuple #[.string ⟨#[]⟩,.int .i64 (p + lineN (s.data.toList.drop p) : Nat)]) ∧ Below w.heap.size w w':=by
 have hm : Hid (s.size ≤ maxLen):=by unfold maxLen;show _ ≤ _;omega
 have hix:=Lh hx
 have hie:=Lh he
 clear hx he
 go_enter Tryz.func161,Tryz.ntmps161
 go_wp2_with (first | (go_at_call 147;refine (ix_as _ _ hix.out _).mono ?_;rintro e w' ⟨rfl,rfl⟩) | (go_at_call 159;refine (end_yes _ _ _ hp hm.out hie.out _).mono ?_;rintro e w1 ⟨rfl,hb⟩))
 go_ret2
 exact ⟨rfl,bel⟩
theorem octN_stop {k v n : Nat} {l : L} (h : k = 0 ∨ l = [] ∨ ∃ c l',l = c :: l' ∧ oct c = false) : octN k v n l = (v,n):=by
 rcases h with rfl | rfl | ⟨c,l',rfl,hc⟩
 · simp [octN]
 · cases k <;> simp [octN]
 · cases k <;> simp [octN,hc]
theorem octN_go {k v n : Nat} {c : UInt8} {l : L} (h : oct c = true) : octN (k + 1) v n (c :: l) = octN k (8 * v + (c.toNat - 48)) (n + 1) l:=by simp [octN,h]
theorem oct_iff (c : UInt8) : oct c = true ↔ (48 ≤ (c.toNat : Int) ∧ (c.toNat : Int) ≤ 55):=by
 unfold oct;simp [UInt8.le_iff_toNat_le];omega
theorem ext1 (s : ByteArray) (p : Nat) (hp : p < s.size) : s.extract p (p + 1) = ⟨#[s[p]]⟩:=by
 apply ByteArray.ext_iff.2
 apply Array.toList_inj.1
 rw [Lib.extract_data,drop_get s p hp]
 simp
theorem u8_mod (v : Nat) : UInt8.ofNat (v % 256) = UInt8.ofNat v:=by
 apply UInt8.toNat_inj.1;simp
theorem esc_oct (s : ByteArray) (a p : Nat) (hp : p < s.size) (hs : s.size ≤ 140737488355327) (hx : Lib.indexByte letters s[p] = -1) (he : eol s[p] = false) (w : World) :
   Calls Tryz.prog 161 #[.agg #[.string s,.int .i64 a],.int .i64 p] w fun e w' => e = .returned (.tuple #[.string ⟨(escO s[p] (octN 3 0 0 (s.data.toList.drop p))).1.toArray⟩,.int .i64 (p + (escO s[p] (octN 3 0 0 (s.data.toList.drop p))).2 : Nat)]) ∧ Below w.heap.size w w':=by
 have hm : Hid (s.size ≤ maxLen):=by unfold maxLen;show _ ≤ _;omega
 have hix:=Lh hx
 have hie:=Lh he
 clear hx he
 obtain ⟨X,hX⟩ : ∃ X,octN 3 0 0 (s.data.toList.drop p) = X:=⟨_,rfl⟩
 rw [hX]
 have HX0:=Lh hX;clear hX
 go_enter Tryz.func161,Tryz.ntmps161
 go_wp2_with (first | (go_at_call 147;refine (ix_as _ _ hix.out _).mono ?_;rintro e w' ⟨rfl,rfl⟩) | (go_at_call 159;refine (end_no _ _ _ hp hm.out hie.out _).mono ?_;rintro e w1 ⟨rfl,hb⟩;obtain ⟨hc,hf⟩:=bcell hb;have hz:=hb.size;simp at hz))
 go_loop [9,10] (fun n t => ∃ (v j : Nat),j ≤ 3 ∧ p + j ≤ s.size ∧ v < 8 ^ j ∧ n = .int .i64 v ∧ t = .int .i64 (p + j) ∧ Hid (octN (3 - j) v j (s.data.toList.drop (p + j)) = X)) (fun _ t => s.size - (intOf t).toNat)
 case atStart => exact ⟨0,0,by omega,by omega,by decide,rfl,by go_num,HX0⟩
 case round =>
   obtain ⟨v,j,hj,hpj,hv,rfl,rfl,H⟩:=hrel
   have hv2 : v < 512:=Nat.lt_of_lt_of_le hv (Nat.le_trans (Nat.pow_le_pow_right (by decide) hj) (by decide))
   have HV:=Lh hv
   clear HX0 hv
   by_cases h1 : p + j < s.size
   · by_cases h2 : j < 3
     · by_cases h3 : 48 ≤ (s[p + j].toNat : Int)
       · by_cases h4 : (s[p + j].toNat : Int) ≤ 55
         · have HX := Lib.hid (show octN (3 - (j + 1)) (8 * v + (s[p + j].toNat - 48)) (j + 1) (s.data.toList.drop (p + j + 1)) = X by
             have:=H.out
             rw [drop_get s _ h1,show 3 - j = (3 - (j + 1)) + 1 by omega,octN_go ((oct_iff _).2 ⟨h3,h4⟩)] at this;exact this)
           clear H
           go_wp2
           go_round
           case rel => exact ⟨8 * v + (s[p + j].toNat - 48),j + 1,by omega,by omega,by have:=HV.out;rw [Nat.pow_succ];omega,by congr 1;omega,by go_num,HX⟩
           case measure => simp [intOf];omega
         · have hX : X = (v,j):=H.out.symm.trans (octN_stop (.inr (.inr ⟨_,_,drop_get s _ h1,by rw [Bool.eq_false_iff];intro h;exact h4 ((oct_iff _).1 h).2⟩)))
           clear H HV
           by_cases hj0 : j = 0
           · subst hj0
             have HX:=Lh hX
             clear hX
             go_wp2
             go_ret2
             refine ⟨?_,bel⟩
             rw [HX.out];simp [escO];exact ext1 s p hp
           · skip
             have hgt : (p : Int) < p + j:=by omega
             have HX:=Lh hX
             clear hX
             go_wp2_with fail
             rw [conv_one _ _ (by simp [isByte,go_sem])]
             go_wp2
             go_ret2
             refine ⟨?_,bel⟩
             rw [HX.out];simp [escO,hj0,cellByte,go_sem];exact u8_mod v
       · have hX : X = (v,j):=H.out.symm.trans (octN_stop (.inr (.inr ⟨_,_,drop_get s _ h1,by rw [Bool.eq_false_iff];intro h;exact h3 ((oct_iff _).1 h).1⟩)))
         clear H HV
         by_cases hj0 : j = 0
         · subst hj0
           have HX:=Lh hX
           clear hX
           go_wp2
           go_ret2
           refine ⟨?_,bel⟩
           rw [HX.out];simp [escO];exact ext1 s p hp
         · skip
           have hgt : (p : Int) < p + j:=by omega
           have HX:=Lh hX
           clear hX
           go_wp2_with fail
           rw [conv_one _ _ (by simp [isByte,go_sem])]
           go_wp2
           go_ret2
           refine ⟨?_,bel⟩
           rw [HX.out];simp [escO,hj0,cellByte,go_sem];exact u8_mod v
     · have hX : X = (v,j):=H.out.symm.trans (octN_stop (.inl (by omega)))
       clear H HV
       have hj0 : ¬ j = 0:=by omega
       have hgt : (p : Int) < p + j:=by omega
       have HX:=Lh hX
       clear hX
       go_wp2_with fail
       rw [conv_one _ _ (by simp [isByte,go_sem])]
       go_wp2
       go_ret2
       refine ⟨?_,bel⟩
       rw [HX.out];simp [escO,hj0,cellByte,go_sem];exact u8_mod v
   · have hX : X = (v,j):=H.out.symm.trans (octN_stop (.inr (.inl (by rw [List.drop_eq_nil_of_le (by simp;omega)]))))
     clear H HV
     have hj0 : ¬ j = 0:=by omega
     have hgt : (p : Int) < p + j:=by omega
     have HX:=Lh hX
     clear hX
     go_wp2_with fail
     rw [conv_one _ _ (by simp [isByte,go_sem])]
     go_wp2
     go_ret2
     refine ⟨?_,bel⟩
     rw [HX.out];simp [escO,hj0,cellByte,go_sem];exact u8_mod v
open Go.RowKit Fo
theorem hexS_end {acc : L} {n : Nat} {h : Int} : hexS acc n h [] = .bad 4:=by simp [hexS]
theorem hexS_shut {acc : L} {n : Nat} {h : Int} {c : UInt8} {l : L} (hc : c = 62) : hexS acc n h (c :: l) = .good (if 0 ≤ h then acc ++ [UInt8.ofNat (16 * h).toNat] else acc,n + 1):=by simp [hexS,hc]
theorem hexS_white {acc : L} {n : Nat} {h : Int} {c : UInt8} {l : L} (hc : ¬ c = 62) (hw : white c = true) : hexS acc n h (c :: l) = hexS acc (n + 1) h l:=by simp [hexS,hc,hw]
theorem hexS_bad {acc : L} {n : Nat} {h : Int} {c : UInt8} {l : L} (hc : ¬ c = 62) (hw : white c = false) (hx : hexv c < (0 : Int)) : hexS acc n h (c :: l) = .bad 3:=by simp [hexS,hc,hw,hx]
theorem hexS_half {acc : L} {n : Nat} {h : Int} {c : UInt8} {l : L} (hc : ¬ c = 62) (hw : white c = false) (hx : ¬ hexv c < (0 : Int)) (hh : h < 0) : hexS acc n h (c :: l) = hexS acc (n + 1) (hexv c) l:=by simp [hexS,hc,hw,hx,hh]
theorem hexS_both {acc : L} {n : Nat} {h : Int} {c : UInt8} {l : L} (hc : ¬ c = 62) (hw : white c = false) (hx : ¬ hexv c < (0 : Int)) (hh : ¬ h < 0) : hexS acc n h (c :: l) = hexS (acc ++ [UInt8.ofNat (16 * h + hexv c).toNat]) (n + 1) (-1) l:=by simp [hexS,hc,hw,hx,hh]
theorem nib2 : ∀ d,d < 16 → ∀ e,e < 16 → bits BinOp.or IntKind.i64 ((d : Nat) * 16) (e : Nat) % 256 = 16 * (d : Int) + e:=by decide +kernel
theorem nib2_int {d e : Int} (h0 : 0 ≤ d) (h1 : d < 16) (h2 : 0 ≤ e) (h3 : e < 16) : bits BinOp.or IntKind.i64 (d * 16) e % 256 = 16 * d + e:=by
 have:=nib2 d.toNat (by omega) e.toNat (by omega)
 rwa [Int.toNat_of_nonneg h0,Int.toNat_of_nonneg h2] at this
theorem digit_at (c : UInt8) (w : World) :
   Calls Tryz.prog 156 #[.int .u8 c.toNat] w fun e w' => e = .returned (.int .i64 (hexv c)) ∧ w' = w:=digit_any c.toNat (UInt8.toNat_lt c) w
theorem hexv_lt (c : UInt8) : hexv c < (16 : Int):=digit_lt c.toNat
theorem hex_in (s : ByteArray) (a : Nat) (ha : a < s.size) (hs : s.size ≤ 140737488355327) (w : World) :
   Calls Tryz.prog 124 #[.agg #[.string s,.int .i64 a]] w fun e w' => e = .returned (tokR a (hexT (s.data.toList.drop (a + 1)))) ∧ Below w.heap.size w w':=by
 unfold hexT
 obtain ⟨T,hT⟩ : ∃ T,hexS [] 0 (-1) (s.data.toList.drop (a + 1)) = T:=⟨_,rfl⟩
 rw [hT]
 have HT:=Lh hT;clear hT
 go_enter Tryz.func124,Tryz.ntmps124
 go_wp2
 obtain ⟨w1,hw1⟩ : ∃ w1,((w.alloc (.cells #[.string s,.int .i64 a] 183)).alloc (.cells #[.int .i64 0,.int .i64 0,.int .i64 0,.int .i64 0,.string ⟨#[]⟩] 96)) = w1:=⟨_,rfl⟩
 have hB1 : w.heap.size + 2 ≤ w1.heap.size:=by rw [← hw1];simp
 have hb : Below w.heap.size w w1:=by rw [← hw1];exact bel
 have c0 : w1.cell? ⟨w.heap.size,0,none⟩ = some (.string s):=by rw [← hw1];simp [go_sem]
 have c1 : w1.cell? ⟨w.heap.size,1,none⟩ = some (.int .i64 a):=by rw [← hw1];simp [go_sem]
 have d0 : w1.cell? ⟨w.heap.size + 1,0,none⟩ = some (.int .i64 0):=by rw [← hw1];simp [go_sem]
 have d1 : w1.cell? ⟨w.heap.size + 1,1,none⟩ = some (.int .i64 0):=by rw [← hw1];simp [go_sem]
 have d2 : w1.cell? ⟨w.heap.size + 1,2,none⟩ = some (.int .i64 0):=by rw [← hw1];simp [go_sem]
 have d3 : w1.cell? ⟨w.heap.size + 1,3,none⟩ = some (.int .i64 0):=by rw [← hw1];simp [go_sem]
 have d4 : w1.cell? ⟨w.heap.size + 1,4,none⟩ = some (.string ⟨#[]⟩):=by rw [← hw1];simp [go_sem]
 have df : ∀ o,w1.frozen? ⟨w.heap.size + 1,o,none⟩ = false:=fun o => by rw [← hw1];simp [go_sem]
 rw [hw1]
 clear hw1
 go_loopw [4,5,6] (fun v h i wr => ∃ (k : Nat) (acc : L) (hf : Int),a + 1 ≤ k ∧ k ≤ s.size ∧ -1 ≤ hf ∧ hf < 16 ∧ i = .int .i64 k ∧ h = .int .i64 hf ∧ ownB wr (w.heap.size + 2) v acc ∧ acc.length ≤ k ∧ Below (w.heap.size + 2) w1 wr ∧ Hid (hexS acc (k - (a + 1)) hf (s.data.toList.drop k) = T)) (fun _ _ i _ => s.size - (intOf i).toNat)
 case atStart => exact ⟨a + 1,[],-1,by omega,by omega,by omega,by omega,by go_num,by go_num,ownB_nil _ _,by simp,Below.refl _ _,by rw [Nat.sub_self];exact HT⟩
 case round =>
   obtain ⟨k,acc,hf,hk1,hk2,hh1,hh2,rfl,rfl,hown,hacc,hbr,H⟩:=hrel
   have hBr : w.heap.size + 2 ≤ wr.heap.size:=Nat.le_trans hB1 hbr.size
   obtain ⟨hcr,hfr⟩:=bcellB hbr
   clear HT
   by_cases hlt : k < s.size
   · have H1:=H.out
     rw [drop_get s k hlt] at H1
     have hn1 : k - (a + 1) + 1 = k + 1 - (a + 1):=by omega
     by_cases h62 : s[k] = 62
     · have t62 : ((s[k].toNat : Int) == 62) = true:=eq_yes (n:=62) (by decide) h62
       rw [hexS_shut h62] at H1
       clear h62 H hn1
       by_cases hhf : 0 ≤ hf
       · rw [if_pos hhf] at H1
         obtain ⟨acc2,hacc2⟩ : ∃ acc2,acc ++ [UInt8.ofNat (16 * hf).toNat] = acc2:=⟨_,rfl⟩
         have hl2 : acc2.length ≤ k + 1:=by rw [← hacc2];simp;omega
         rw [hacc2] at H1
         have Hn:=Lh (show acc ++ [UInt8.ofNat (hf * 16).toNat] = acc2 by rw [Int.mul_comm];exact hacc2)
         have HX:=Lh H1.symm
         clear H1 hacc2
         go_wp2_with (first | (at_builtin;refine append1 rfl _ _ rfl (w.heap.size + 2) _ acc _ hown rfl rfl (by omega) hBr (by omega) (by omega) ?_;intro v3 w3 hown3 hb3 hz3;replace hb3:=hbr.trans hb3;have hB3:=Nat.le_trans hB1 hb3.size;obtain ⟨hc3,hf3⟩:=bcellB hb3;rw [Hn.out] at hown3;have hcv:=convB hown3))
         by_cases h127 : acc2.length ≤ 32767
         · go_wp2_with (first | (go_at_call 155;refine (told_in s a 3 _ _ 32767 (by unfold maxLen;simp [ByteArray.size];omega) _ (by simpa [ByteArray.size] using h127)).mono ?_;rintro e w4 ⟨rfl,hb4⟩;replace hb4:=hb3.trans (hb4.mono hB3);obtain ⟨hc4,hf4⟩:=bcellB hb4))
           refine bodyPost_ret (v:=.tuple #[.agg #[.int .i64 3,.int .i64 a,.int .i64 (k + 1),.int .i64 0,.string ⟨acc2.toArray⟩],.int .i64 0]) (by simp [results,Tryz.results124,go_sem,hc4,hf4,d0,d1,d2,d3,d4,df]) rfl ⟨?_,bel⟩
           rw [HX.out];simp only [strOf,told,if_neg (show ¬ 32767 < acc2.length by omega),tokR]
           congr;omega
         · go_wp2_with (first | (go_at_call 155;refine (told_long s a 3 _ _ 32767 (by unfold maxLen;simp [ByteArray.size];omega) _ (by simp [ByteArray.size];omega)).mono ?_;rintro e w4 ⟨rfl,hb4⟩;replace hb4:=hb3.trans (hb4.mono hB3);obtain ⟨hc4,hf4⟩:=bcellB hb4))
           refine bodyPost_ret (v:=.tuple #[.agg #[.int .i64 0,.int .i64 0,.int .i64 0,.int .i64 0,.string ⟨#[]⟩],.int .i64 5]) (by simp [results,Tryz.results124,go_sem,hc4,hf4,d0,d1,d2,d3,d4,df]) rfl ⟨?_,bel⟩
           rw [HX.out];simp only [strOf,told,if_pos (show 32767 < acc2.length by omega),tokR]
       · rw [if_neg hhf] at H1
         obtain ⟨acc2,hacc2⟩ : ∃ acc2,acc = acc2:=⟨_,rfl⟩
         have hl2 : acc2.length ≤ k + 1:=by rw [← hacc2];omega
         rw [hacc2] at H1
         have hown3 : ownB wr (w.heap.size + 2) u4 acc2:=by rw [← hacc2];exact hown
         have HX:=Lh H1.symm
         have hb3:=hbr
         have hB3:=hBr
         have hc3:=hcr
         have hf3:=hfr
         have hcv:=convB hown3
         clear H1 hacc2
         by_cases h127 : acc2.length ≤ 32767
         · go_wp2_with (first | (go_at_call 155;refine (told_in s a 3 _ _ 32767 (by unfold maxLen;simp [ByteArray.size];omega) _ (by simpa [ByteArray.size] using h127)).mono ?_;rintro e w4 ⟨rfl,hb4⟩;replace hb4:=hb3.trans (hb4.mono hB3);obtain ⟨hc4,hf4⟩:=bcellB hb4))
           refine bodyPost_ret (v:=.tuple #[.agg #[.int .i64 3,.int .i64 a,.int .i64 (k + 1),.int .i64 0,.string ⟨acc2.toArray⟩],.int .i64 0]) (by simp [results,Tryz.results124,go_sem,hc4,hf4,d0,d1,d2,d3,d4,df]) rfl ⟨?_,bel⟩
           rw [HX.out];simp only [strOf,told,if_neg (show ¬ 32767 < acc2.length by omega),tokR]
           congr;omega
         · go_wp2_with (first | (go_at_call 155;refine (told_long s a 3 _ _ 32767 (by unfold maxLen;simp [ByteArray.size];omega) _ (by simp [ByteArray.size];omega)).mono ?_;rintro e w4 ⟨rfl,hb4⟩;replace hb4:=hb3.trans (hb4.mono hB3);obtain ⟨hc4,hf4⟩:=bcellB hb4))
           refine bodyPost_ret (v:=.tuple #[.agg #[.int .i64 0,.int .i64 0,.int .i64 0,.int .i64 0,.string ⟨#[]⟩],.int .i64 5]) (by simp [results,Tryz.results124,go_sem,hc4,hf4,d0,d1,d2,d3,d4,df]) rfl ⟨?_,bel⟩
           rw [HX.out];simp only [strOf,told,if_pos (show 32767 < acc2.length by omega),tokR]
     · have t62 : ((s[k].toNat : Int) == 62) = false:=eq_no (n:=62) (by decide) h62
       cases hw : white s[k]
       · by_cases hx : hexv s[k] < (0 : Int)
         · have HX:=Lh (H1.symm.trans (hexS_bad h62 hw hx))
           have hw2:=Lh hw
           clear h62 H H1 hw
           go_wp2_with (first | (go_at_call 156;refine (digit_at _ _).mono ?_;rintro e w' ⟨rfl,rfl⟩) | (go_at_call 154;refine (white_no _ hw2.out _).mono ?_;rintro e w' ⟨rfl,rfl⟩) | (go_at_call 121;refine (refused_in _ _).mono ?_;rintro e w3 ⟨rfl,hb3⟩;replace hb3:=hbr.trans (hb3.mono hBr);obtain ⟨hc3,hf3⟩:=bcellB hb3))
           refine bodyPost_ret (v:=.tuple #[.agg #[.int .i64 0,.int .i64 0,.int .i64 0,.int .i64 0,.string ⟨#[]⟩],.int .i64 3]) (by simp [results,Tryz.results124,go_sem,hc3,hf3,d0,d1,d2,d3,d4,df]) rfl ⟨by rw [HX.out];rfl,bel⟩
         · have hd1:=hexv_lt s[k]
           by_cases hhf : hf < 0
           · have HX:=Lh (H1.symm.trans ((hexS_half h62 hw hx hhf).trans (by rw [hn1])))
             have hw2:=Lh hw
             clear h62 H H1 hw hn1
             go_wp2_with (first | (go_at_call 156;refine (digit_at _ _).mono ?_;rintro e w' ⟨rfl,rfl⟩) | (go_at_call 154;refine (white_no _ hw2.out _).mono ?_;rintro e w' ⟨rfl,rfl⟩))
             go_roundw
             case rel => exact ⟨k + 1,acc,hexv s[k],by omega,by omega,by omega,by omega,by go_num,rfl,hown,by omega,hbr,HX.out.symm⟩
             case measure => simp [intOf];omega
           · have HX:=Lh (H1.symm.trans ((hexS_both h62 hw hx hhf).trans (by rw [hn1])))
             have hw2:=Lh hw
             clear h62 H H1 hw hn1
             go_wp2_with (first | (go_at_call 156;refine (digit_at _ _).mono ?_;rintro e w' ⟨rfl,rfl⟩) | (go_at_call 154;refine (white_no _ hw2.out _).mono ?_;rintro e w' ⟨rfl,rfl⟩) | (at_builtin;go_must (refine append1 rfl _ _ rfl (w.heap.size + 2) _ acc _ hown rfl rfl (by omega) hBr (by omega) (by omega) ?_);intro v3 w3 hown3 hb3 hz3;replace hb3:=hbr.trans hb3))
             go_roundw
             case rel => exact ⟨k + 1,acc ++ [UInt8.ofNat (16 * hf + hexv s[k]).toNat],-1,by omega,by omega,by omega,by omega,by go_num,by go_num,by rw [nib2_int (by omega) hh2 (by omega) hd1] at hown3;exact hown3,by simp;omega,hb3,HX.out.symm⟩
             case measure => simp [intOf];omega
       · have HX:=Lh (H1.symm.trans ((hexS_white h62 hw).trans (by rw [hn1])))
         have hw2:=Lh hw
         clear h62 H H1 hw hn1
         go_wp2_with (first | (go_at_call 156;refine (digit_at _ _).mono ?_;rintro e w' ⟨rfl,rfl⟩) | (go_at_call 154;refine (white_yes _ hw2.out _).mono ?_;rintro e w' ⟨rfl,rfl⟩))
         go_roundw
         case rel => exact ⟨k + 1,acc,hf,by omega,by omega,by omega,by omega,by go_num,rfl,hown,by omega,hbr,HX.out.symm⟩
         case measure => simp [intOf];omega
   · have HX:=Lh (show T = .bad 4 by have:=H.out;rw [List.drop_eq_nil_of_le (by simp;omega),hexS_end] at this;exact this.symm)
     clear H
     go_wp2_with (go_at_call 121;refine (refused_in _ _).mono ?_;rintro e w3 ⟨rfl,hb3⟩;replace hb3:=hbr.trans (hb3.mono hBr);obtain ⟨hc3,hf3⟩:=bcellB hb3)
     refine bodyPost_ret (v:=.tuple #[.agg #[.int .i64 0,.int .i64 0,.int .i64 0,.int .i64 0,.string ⟨#[]⟩],.int .i64 4]) (by simp [results,Tryz.results124,go_sem,hc3,hf3,d0,d1,d2,d3,d4,df]) rfl ⟨by rw [HX.out];rfl,bel⟩
open Go.RowKit Fo
def bldB (w : World) (B : Nat) (l : L) : Prop:=Lib.IsBuilder 220 5 B B (Lib.byteCells l) w
theorem bldB_below {w w' : World} {B : Nat} {l : L} (h : bldB w B l) (hb : Below w.heap.size w w') : bldB w' B l:=by
 have key : ∀ p,Lib.BuilderAt 220 5 B B p (Lib.byteCells l) w → Lib.BuilderAt 220 5 B B p (Lib.byteCells l) w':=by
   rintro p h
   have hlt:=h.lt
   obtain ⟨h1,v,h2,h3,h4⟩:=h
   exact ⟨h1,v,by rw [hb.block B hlt];exact h2,World.ownsRow.kept h3 (row:=none) ⟨hb.os,hb.tape,hb.output,hb.size,fun k hk _ => hb.block k hk⟩ (Classical.em _),h4⟩
 rcases h with h | h
 · exact .inl (key _ h)
 · exact .inr (key _ h)
theorem bldB_fresh (w : World) : bldB (w.alloc (.cells #[.pointer none,.slice none 0 0] 220)) w.heap.size []:=Lib.fresh_isBuilder _ _ w
theorem bld_byte (B : Nat) (l : L) (n : Int) (h0 : 0 ≤ n) (h1 : n < 256) (w : World) (h : bldB w B l) (hl : l.length + 1 ≤ 140737488355328) (hB : B ≤ w.heap.size) :
   Calls Tryz.prog 160 #[.pointer (some ⟨B,0,none⟩),.int .u8 n] w fun e w' => e = .returned .nilIface ∧ bldB w' B (l ++ [UInt8.ofNat n.toNat]) ∧ Below B w w':=by
 refine (Tryz.Builder_WriteByte B B _ _ w h (by rw [Lib.byteCells_length];exact hl) hB).mono fun e w' ⟨g1,g2,g3⟩ => ⟨g1,.inr ?_,g3⟩
 rw [show Lib.byteCells (l ++ [UInt8.ofNat n.toNat]) = Lib.byteCells l ++ [.int .u8 n] by simp only [Lib.byteCells,List.map_append,List.map_cons,List.map_nil,u8_back n h0 h1]]
 exact g2
theorem bld_str (B : Nat) (l : L) (s : ByteArray) (w : World) (h : bldB w B l) (hl : l.length + s.size ≤ 140737488355328) (hB : B ≤ w.heap.size) :
   Calls Tryz.prog 162 #[.pointer (some ⟨B,0,none⟩),.string s] w fun e w' => e = .returned (.tuple #[.int .i64 s.size,.nilIface]) ∧ bldB w' B (l ++ s.data.toList) ∧ Below B w w':=by
 refine (Tryz.Builder_WriteString B B _ _ w h (by rw [Lib.byteCells_length];exact hl) hB).mono fun e w' ⟨h1,h2,h3⟩ => ⟨h1,.inr ?_,h3⟩
 simpa [Lib.byteCells,Lib.strCells] using h2
theorem bld_get (B : Nat) (l : L) (w : World) (h : bldB w B l) (hB : B ≤ w.heap.size) :
   Calls Tryz.prog 163 #[.pointer (some ⟨B,0,none⟩)] w fun e w' => e = .returned (.string ⟨l.toArray⟩) ∧ Below B w w' :=
 Tryz.Builder_String_any B B l w h hB
open Go.RowKit Fo
theorem octN_le (k v n : Nat) (l : L) : n ≤ (octN k v n l).2 ∧ (octN k v n l).2 ≤ n + l.length:=by
 induction k generalizing v n l with
 | zero => simp [octN]
 | succ k ih =>
   cases l with
   | nil => simp [octN]
   | cons c l =>
     simp only [octN]
     split
     · have:=ih (8 * v + (c.toNat - 48)) (n + 1) l;simp;omega
     · simp
theorem esc_le (l : L) (h : l ≠ []) : 1 ≤ (esc l).2 ∧ (esc l).2 ≤ l.length ∧ (esc l).1.length ≤ 1:=by
 cases l with
 | nil => exact absurd rfl h
 | cons c l =>
   have h1:=lineN_pos c l
   have h2:=lineN_le (c :: l)
   have h3:=octN_le 3 0 0 (c :: l)
   rcases esc_cases c l with ⟨_,_,e⟩ | ⟨_,_,e⟩ | ⟨_,_,e⟩ | ⟨_,_,e⟩ | ⟨_,_,e⟩ | ⟨_,_,e⟩ | ⟨_,_,e⟩ <;> rw [e]
   all_goals first | (simp;done) | (simp only [List.length_nil];omega) | skip
   unfold escO
   split
   · simp
   · simp only [List.length_cons,List.length_nil] at *;omega
theorem esc_in (s : ByteArray) (a p : Nat) (hp : p < s.size) (hs : s.size ≤ 140737488355327) (w : World) :
   Calls Tryz.prog 161 #[.agg #[.string s,.int .i64 a],.int .i64 p] w fun e w' => e = .returned (.tuple #[.string ⟨(esc (s.data.toList.drop p)).1.toArray⟩,.int .i64 (p + (esc (s.data.toList.drop p)).2 : Nat)]) ∧ Below w.heap.size w w':=by
 have hd:=drop_get s p hp
 have hc:=esc_cases s[p] (s.data.toList.drop (p + 1))
 rw [← hd] at hc
 rcases hc with ⟨_,h,e⟩ | ⟨_,h,e⟩ | ⟨_,h,e⟩ | ⟨_,h,e⟩ | ⟨_,h,e⟩ | ⟨h,h2,e⟩ | ⟨h,h2,e⟩ <;> rw [e]
 · exact esc_letter s a p hp hs 0 ([],0) (by simp) h w
 · exact esc_letter s a p hp hs 1 ([],0) (by simp) h w
 · exact esc_letter s a p hp hs 2 ([],0) (by simp) h w
 · exact esc_letter s a p hp hs 3 ([],0) (by simp) h w
 · exact esc_letter s a p hp hs 4 ([],0) (by simp) h w
 · exact esc_eol s a p hp hs h h2 w
 · exact esc_oct s a p hp hs h h2 w
theorem textS_skip (acc : L) (n op : Nat) : ∀ (k : Nat) (l : L),k ≤ l.length → textS acc n op k l = textS acc (n + k) op 0 (l.drop k):=by
 intro k
 induction k generalizing n with
 | zero => intro l _;simp
 | succ k ih =>
   intro l hl
   cases l with
   | nil => simp at hl
   | cons c l => rw [textS,ih (n + 1) l (by simpa using hl),List.drop_succ_cons];congr 1;omega
theorem textS_end {acc : L} {n op : Nat} : textS acc n op 0 [] = .bad 4:=by simp [textS]
theorem textS_eol {acc : L} {n op : Nat} {s : ByteArray} {k : Nat} (h : k < s.size) (he : eol s[k] = true) :
   textS acc n op 0 (s.data.toList.drop k) = textS (acc ++ [10]) (n + lineN (s.data.toList.drop k)) op 0 (s.data.toList.drop (k + lineN (s.data.toList.drop k))):=by
 have h1:=lineN_le (s.data.toList.drop k)
 rw [drop_get s k h] at *
 have h2:=lineN_pos s[k] (s.data.toList.drop (k + 1))
 obtain ⟨x,hx⟩ : ∃ x,lineN (s[k] :: s.data.toList.drop (k + 1)) = x:=⟨_,rfl⟩
 rw [hx] at h1 h2
 rw [textS,if_pos he,textS_skip _ _ _ _ _ (by rw [hx];simp at h1 ⊢;omega),List.drop_drop,hx,show k + 1 + (x - 1) = k + x by omega,show n + 1 + (x - 1) = n + x by omega]
theorem textS_esc0 {acc : L} {n op : Nat} {s : ByteArray} {k : Nat} (h : k + 1 = s.size) (hc : s[k] = 92) : textS acc n op 0 (s.data.toList.drop k) = .bad 4:=by
 rw [drop_get s k (by omega),hc,List.drop_eq_nil_of_le (by simp;omega)];simp [textS,eol]
theorem textS_esc {acc : L} {n op : Nat} {s : ByteArray} {k : Nat} (h : k + 1 < s.size) (hc : s[k] = 92) :
   textS acc n op 0 (s.data.toList.drop k) = textS (acc ++ (esc (s.data.toList.drop (k + 1))).1) (n + 1 + (esc (s.data.toList.drop (k + 1))).2) op 0 (s.data.toList.drop (k + 1 + (esc (s.data.toList.drop (k + 1))).2)):=by
 have hne : s.data.toList.drop (k + 1) ≠ []:=by rw [drop_get s _ h];simp
 rw [drop_get s k (by omega),hc]
 have he : (eol 92) = false:=by decide
 rw [textS]
 simp only [he,hne]
 simp only [Bool.false_eq_true,if_false,beq_self_eq_true,if_true]
 rw [textS_skip _ _ _ _ _ (esc_le _ hne).2.1,List.drop_drop]
theorem textS_open {acc : L} {n op : Nat} {s : ByteArray} {k : Nat} (h : k < s.size) (hc : s[k] = 40) : textS acc n op 0 (s.data.toList.drop k) = textS (acc ++ [s[k]]) (n + 1) (op + 1) 0 (s.data.toList.drop (k + 1)):=by
 rw [drop_get s k h,hc];simp [textS,eol]
theorem textS_shut {acc : L} {n : Nat} {s : ByteArray} {k : Nat} (h : k < s.size) (hc : s[k] = 41) : textS acc n 1 0 (s.data.toList.drop k) = .good (acc,n + 1):=by
 rw [drop_get s k h,hc];simp [textS,eol]
theorem textS_close {acc : L} {n op : Nat} {s : ByteArray} {k : Nat} (h : k < s.size) (hc : s[k] = 41) (ho : ¬ op = 1) : textS acc n op 0 (s.data.toList.drop k) = textS (acc ++ [s[k]]) (n + 1) (op - 1) 0 (s.data.toList.drop (k + 1)):=by
 rw [drop_get s k h,hc];simp [textS,eol,ho]
theorem textS_plain {acc : L} {n op : Nat} {s : ByteArray} {k : Nat} (h : k < s.size) (he : eol s[k] = false) (h1 : ¬ s[k] = 92) (h2 : ¬ s[k] = 40) (h3 : ¬ s[k] = 41) : textS acc n op 0 (s.data.toList.drop k) = textS (acc ++ [s[k]]) (n + 1) op 0 (s.data.toList.drop (k + 1)):=by
 rw [drop_get s k h];simp [textS,he,h1,h2,h3]
theorem text_in (s : ByteArray) (a : Nat) (ha : a < s.size) (hs : s.size ≤ 140737488355327) (w : World) :
   Calls Tryz.prog 126 #[.agg #[.string s,.int .i64 a]] w fun e w' => e = .returned (tokR a (textT (s.data.toList.drop (a + 1)))) ∧ Below w.heap.size w w':=by
 have hm : Hid (s.size ≤ maxLen):=by unfold maxLen;show _ ≤ _;omega
 unfold textT
 obtain ⟨T,hT⟩ : ∃ T,textS [] 0 1 0 (s.data.toList.drop (a + 1)) = T:=⟨_,rfl⟩
 rw [hT]
 have HT:=Lh hT;clear hT
 go_enter Tryz.func126,Tryz.ntmps126
 go_wp2
 have hbl0 : bldB (((w.alloc (.cells #[.string s,.int .i64 a] 183)).alloc (.cells #[.int .i64 0,.int .i64 0,.int .i64 0,.int .i64 0,.string ⟨#[]⟩] 96)).alloc (.cells #[.pointer none,.slice none 0 0] 220)) (w.heap.size + 2) []:=by
   have:=bldB_fresh ((w.alloc (.cells #[.string s,.int .i64 a] 183)).alloc (.cells #[.int .i64 0,.int .i64 0,.int .i64 0,.int .i64 0,.string ⟨#[]⟩] 96))
   simpa using this
 obtain ⟨w1,hw1⟩ : ∃ w1,(((w.alloc (.cells #[.string s,.int .i64 a] 183)).alloc (.cells #[.int .i64 0,.int .i64 0,.int .i64 0,.int .i64 0,.string ⟨#[]⟩] 96)).alloc (.cells #[.pointer none,.slice none 0 0] 220)) = w1:=⟨_,rfl⟩
 have hB1 : w.heap.size + 2 ≤ w1.heap.size:=by rw [← hw1];simp
 have hb : Below w.heap.size w w1:=by rw [← hw1];exact bel
 have c0 : w1.cell? ⟨w.heap.size,0,none⟩ = some (.string s):=by rw [← hw1];simp [go_sem]
 have c1 : w1.cell? ⟨w.heap.size,1,none⟩ = some (.int .i64 a):=by rw [← hw1];simp [go_sem]
 have d0 : w1.cell? ⟨w.heap.size + 1,0,none⟩ = some (.int .i64 0):=by rw [← hw1];simp [go_sem]
 have d1 : w1.cell? ⟨w.heap.size + 1,1,none⟩ = some (.int .i64 0):=by rw [← hw1];simp [go_sem]
 have d2 : w1.cell? ⟨w.heap.size + 1,2,none⟩ = some (.int .i64 0):=by rw [← hw1];simp [go_sem]
 have d3 : w1.cell? ⟨w.heap.size + 1,3,none⟩ = some (.int .i64 0):=by rw [← hw1];simp [go_sem]
 have d4 : w1.cell? ⟨w.heap.size + 1,4,none⟩ = some (.string ⟨#[]⟩):=by rw [← hw1];simp [go_sem]
 have df : ∀ o,w1.frozen? ⟨w.heap.size + 1,o,none⟩ = false:=fun o => by rw [← hw1];simp [go_sem]
 rw [hw1] at hbl0
 rw [hw1]
 clear hw1
 go_loopw [5,6] (fun op i wr => ∃ (k : Nat) (acc : L) (o : Nat),a + 1 ≤ k ∧ k ≤ s.size ∧ 1 ≤ o ∧ o ≤ k ∧ i = .int .i64 k ∧ op = .int .i64 o ∧ bldB wr (w.heap.size + 2) acc ∧ acc.length ≤ k ∧ Below (w.heap.size + 2) w1 wr ∧ Hid (textS acc (k - (a + 1)) o 0 (s.data.toList.drop k) = T)) (fun _ i _ => s.size - (intOf i).toNat)
 case atStart => exact ⟨a + 1,[],1,by omega,by omega,by omega,by omega,by go_num,by go_num,hbl0,by simp,Below.refl _ _,by rw [Nat.sub_self];exact HT⟩
 case round =>
   obtain ⟨k,acc,o,hk1,hk2,ho1,ho2,rfl,rfl,hbld,hacc,hbr,H⟩:=hrel
   have hBr : w.heap.size + 2 ≤ wr.heap.size:=Nat.le_trans hB1 hbr.size
   obtain ⟨hcr,hfr⟩:=bcellB hbr
   clear HT
   by_cases hlt : k < s.size
   · cases he : eol s[k]
     · have HE:=Lh he
       have hn1 : k - (a + 1) + 1 = k + 1 - (a + 1):=by omega
       have hu:=UInt8.toNat_lt s[k]
       by_cases h92 : s[k] = 92
       · have t1 : ((s[k].toNat : Int) == 92) = true:=eq_yes (n:=92) (by decide) h92
         by_cases hend : k + 1 = s.size
         · have HX:=Lh (H.out.symm.trans (textS_esc0 hend h92))
           have t2 : ((k : Int) + 1 == (s.size : Int)) = true:=by simp;omega
           clear H he h92 hend hn1
           go_wp2_with (first | (go_at_call 159;refine (end_no _ _ _ hlt hm.out HE.out _).mono ?_;rintro e w2 ⟨rfl,hb2⟩;replace hbld:=bldB_below hbld hb2;have hb3:=hb2.mono hBr;replace hbr:=hbr.trans hb3;clear hcr hfr hBr;have hBr:=Nat.le_trans hB1 hbr.size;obtain ⟨hcr,hfr⟩:=bcellB hbr;clear hb2 hb3) | (go_at_call 121;refine (refused_in _ _).mono ?_;rintro e w3 ⟨rfl,hb3⟩;replace hb3:=hbr.trans (hb3.mono hBr);obtain ⟨hc3,hf3⟩:=bcellB hb3))
           refine bodyPost_ret (v:=.tuple #[.agg #[.int .i64 0,.int .i64 0,.int .i64 0,.int .i64 0,.string ⟨#[]⟩],.int .i64 4]) (by simp [results,Tryz.results126,go_sem,hc3,hf3,d0,d1,d2,d3,d4,df]) rfl ⟨by rw [HX.out];rfl,bel⟩
         · have hlt1 : k + 1 < s.size:=by omega
           have t2 : ((k : Int) + 1 == (s.size : Int)) = false:=by simp;omega
           have hX:=H.out.symm.trans (textS_esc hlt1 h92)
           have hel:=esc_le (s.data.toList.drop (k + 1)) (by rw [drop_get s _ hlt1];simp)
           obtain ⟨⟨x,m⟩,hxm⟩ : ∃ x,esc (s.data.toList.drop (k + 1)) = x:=⟨_,rfl⟩
           have hesc:=fun w => esc_in s a (k + 1) hlt1 hs w
           rw [hxm] at hX hel hesc
           simp only [List.length_drop,Array.length_toList] at hX hel hesc
           have hel2 : m ≤ s.size - (k + 1):=hel.2.1
           have hel1:=hel.1
           have hel3:=hel.2.2
           rw [show k - (a + 1) + 1 + m = k + 1 + m - (a + 1) by omega] at hX
           have HX:=Lh hX
           have HS:=Lh hesc
           clear H he h92 hend hX hxm hesc hel
           go_wp2_with (first | (go_at_call 159;refine (end_no _ _ _ hlt hm.out HE.out _).mono ?_;rintro e w2 ⟨rfl,hb2⟩;replace hbld:=bldB_below hbld hb2;have hb3:=hb2.mono hBr;replace hbr:=hbr.trans hb3;clear hcr hfr hBr;have hBr:=Nat.le_trans hB1 hbr.size;obtain ⟨hcr,hfr⟩:=bcellB hbr;clear hb2 hb3) | (go_at_call 161;refine (HS.out _).mono ?_;rintro e w4 ⟨rfl,hb2⟩;replace hbld:=bldB_below hbld hb2;have hb3:=hb2.mono hBr;replace hbr:=hbr.trans hb3;clear hcr hfr hBr;have hBr:=Nat.le_trans hB1 hbr.size;obtain ⟨hcr,hfr⟩:=bcellB hbr;clear hb2 hb3) | (go_at_call 162;refine (bld_str _ _ _ _ hbld (by simp [ByteArray.size];omega) hBr).mono ?_;rintro e w3 ⟨rfl,hbld3,hb3⟩;replace hbld:=hbld3;replace hbr:=hbr.trans hb3;clear hcr hfr hBr;have hBr:=Nat.le_trans hB1 hbr.size;obtain ⟨hcr,hfr⟩:=bcellB hbr;clear hbld3 hb3))
           go_roundw
           case rel => exact ⟨k + 1 + m,acc ++ x,o,by omega,by omega,by omega,by omega,by go_num,rfl,by simpa using hbld,by simp;omega,hbr,HX.out.symm⟩
           case measure => simp [intOf];omega
       · have t1 : ((s[k].toNat : Int) == 92) = false:=eq_no (n:=92) (by decide) h92
         by_cases h40 : s[k] = 40
         · have t2 : ((s[k].toNat : Int) == 40) = true:=eq_yes (n:=40) (by decide) h40
           have t4 : ((o : Int) + 1 == 0) = false:=by simp;omega
           have HX:=Lh (H.out.symm.trans ((textS_open hlt h40).trans (by rw [hn1])))
           clear H he h92 h40 hn1
           go_wp2_with (first | (go_at_call 159;refine (end_no _ _ _ hlt hm.out HE.out _).mono ?_;rintro e w2 ⟨rfl,hb2⟩;replace hbld:=bldB_below hbld hb2;have hb3:=hb2.mono hBr;replace hbr:=hbr.trans hb3;clear hcr hfr hBr;have hBr:=Nat.le_trans hB1 hbr.size;obtain ⟨hcr,hfr⟩:=bcellB hbr;clear hb2 hb3) | (go_at_call 160;refine (bld_byte _ _ _ (by omega) (by omega) _ hbld (by omega) hBr).mono ?_;rintro e w3 ⟨rfl,hbld3,hb3⟩;replace hbld:=hbld3;replace hbr:=hbr.trans hb3;clear hcr hfr hBr;have hBr:=Nat.le_trans hB1 hbr.size;obtain ⟨hcr,hfr⟩:=bcellB hbr;clear hbld3 hb3))
           go_roundw
           case rel => exact ⟨k + 1,acc ++ [s[k]],o + 1,by omega,by omega,by omega,by omega,by go_num,by go_num,by simpa using hbld,by simp;omega,hbr,HX.out.symm⟩
           case measure => simp [intOf];omega
         · have t2 : ((s[k].toNat : Int) == 40) = false:=eq_no (n:=40) (by decide) h40
           by_cases h41 : s[k] = 41
           · have t3 : ((s[k].toNat : Int) == 41) = true:=eq_yes (n:=41) (by decide) h41
             by_cases h1 : o = 1
             · subst h1
               have HX:=Lh (H.out.symm.trans (textS_shut hlt h41))
               clear H he h92 h40 h41 hn1
               go_wp2_with (go_at_call 159;refine (end_no _ _ _ hlt hm.out HE.out _).mono ?_;rintro e w2 ⟨rfl,hb2⟩;replace hbld:=bldB_below hbld hb2;have hb3:=hb2.mono hBr;replace hbr:=hbr.trans hb3;clear hcr hfr hBr;have hBr:=Nat.le_trans hB1 hbr.size;obtain ⟨hcr,hfr⟩:=bcellB hbr;clear hb2 hb3)
               have hbld2 : bldB w2.drew (w.heap.size + 2) acc:=hbld
               have hbr2 : Below (w.heap.size + 2) w1 w2.drew:=hbr.drew
               have hBr2 : w.heap.size + 2 ≤ w2.drew.heap.size:=hBr
               by_cases h127 : acc.length ≤ 32767
               · go_region_with (first | (go_at_call 163;refine (bld_get _ _ _ hbld2 hBr2).mono ?_;rintro e w3 ⟨rfl,hb3⟩;replace hb3:=hbr2.trans hb3;have hB3:=Nat.le_trans hB1 hb3.size;obtain ⟨hc3,hf3⟩:=bcellB hb3) | (go_at_call 155;refine (told_in s a 3 _ _ 32767 (by unfold maxLen;simp [ByteArray.size];omega) _ (by simpa [ByteArray.size] using h127)).mono ?_;rintro e w4 ⟨rfl,hb4⟩;replace hb4:=hb3.trans (hb4.mono hB3);obtain ⟨hc4,hf4⟩:=bcellB hb4))
                 all_goals go_wp2
                 all_goals refine bodyPost_ret (v:=.tuple #[.agg #[.int .i64 3,.int .i64 a,.int .i64 (k + 1),.int .i64 0,.string ⟨acc.toArray⟩],.int .i64 0]) (by simp [results,Tryz.results126,go_sem,hc4,hf4,d0,d1,d2,d3,d4,df,show IntKind.i64.wrap ((k : Int) + 1) = (k : Int) + 1 from IntWalk.i64_in _ ⟨by omega,by omega⟩]) rfl ⟨?_,bel⟩
                 all_goals
                   rw [HX.out];simp only [strOf,told,if_neg (show ¬ 32767 < acc.length by omega),tokR]
                   congr;omega
               · go_region_with (first | (go_at_call 163;refine (bld_get _ _ _ hbld2 hBr2).mono ?_;rintro e w3 ⟨rfl,hb3⟩;replace hb3:=hbr2.trans hb3;have hB3:=Nat.le_trans hB1 hb3.size;obtain ⟨hc3,hf3⟩:=bcellB hb3) | (go_at_call 155;refine (told_long s a 3 _ _ 32767 (by unfold maxLen;simp [ByteArray.size];omega) _ (by simp [ByteArray.size];omega)).mono ?_;rintro e w4 ⟨rfl,hb4⟩;replace hb4:=hb3.trans (hb4.mono hB3);obtain ⟨hc4,hf4⟩:=bcellB hb4))
                 all_goals go_wp2
                 all_goals refine bodyPost_ret (v:=.tuple #[.agg #[.int .i64 0,.int .i64 0,.int .i64 0,.int .i64 0,.string ⟨#[]⟩],.int .i64 5]) (by simp [results,Tryz.results126,go_sem,hc4,hf4,d0,d1,d2,d3,d4,df]) rfl ⟨?_,bel⟩
                 all_goals
                   rw [HX.out];simp only [strOf,told,if_pos (show 32767 < acc.length by omega),tokR]
             · have t4 : ((o : Int) - 1 == 0) = false:=by simp;omega
               have HX:=Lh (H.out.symm.trans ((textS_close hlt h41 h1).trans (by rw [hn1])))
               clear H he h92 h40 h41 hn1
               go_wp2_with (first | (go_at_call 159;refine (end_no _ _ _ hlt hm.out HE.out _).mono ?_;rintro e w2 ⟨rfl,hb2⟩;replace hbld:=bldB_below hbld hb2;have hb3:=hb2.mono hBr;replace hbr:=hbr.trans hb3;clear hcr hfr hBr;have hBr:=Nat.le_trans hB1 hbr.size;obtain ⟨hcr,hfr⟩:=bcellB hbr;clear hb2 hb3) | (go_at_call 160;refine (bld_byte _ _ _ (by omega) (by omega) _ hbld (by omega) hBr).mono ?_;rintro e w3 ⟨rfl,hbld3,hb3⟩;replace hbld:=hbld3;replace hbr:=hbr.trans hb3;clear hcr hfr hBr;have hBr:=Nat.le_trans hB1 hbr.size;obtain ⟨hcr,hfr⟩:=bcellB hbr;clear hbld3 hb3))
               go_roundw
               case rel => exact ⟨k + 1,acc ++ [s[k]],o - 1,by omega,by omega,by omega,by omega,by go_num,by congr 1;omega,by simpa using hbld,by simp;omega,hbr,HX.out.symm⟩
               case measure => simp [intOf];omega
           · have t3 : ((s[k].toNat : Int) == 41) = false:=eq_no (n:=41) (by decide) h41
             have t4 : ((o : Int) == 0) = false:=by simp;omega
             have HX:=Lh (H.out.symm.trans ((textS_plain hlt he h92 h40 h41).trans (by rw [hn1])))
             clear H he h92 h40 h41 hn1
             go_wp2_with (first | (go_at_call 159;refine (end_no _ _ _ hlt hm.out HE.out _).mono ?_;rintro e w2 ⟨rfl,hb2⟩;replace hbld:=bldB_below hbld hb2;have hb3:=hb2.mono hBr;replace hbr:=hbr.trans hb3;clear hcr hfr hBr;have hBr:=Nat.le_trans hB1 hbr.size;obtain ⟨hcr,hfr⟩:=bcellB hbr;clear hb2 hb3) | (go_at_call 160;refine (bld_byte _ _ _ (by omega) (by omega) _ hbld (by omega) hBr).mono ?_;rintro e w3 ⟨rfl,hbld3,hb3⟩;replace hbld:=hbld3;replace hbr:=hbr.trans hb3;clear hcr hfr hBr;have hBr:=Nat.le_trans hB1 hbr.size;obtain ⟨hcr,hfr⟩:=bcellB hbr;clear hbld3 hb3))
             go_roundw
             case rel => exact ⟨k + 1,acc ++ [s[k]],o,by omega,by omega,by omega,by omega,by go_num,rfl,by simpa using hbld,by simp;omega,hbr,HX.out.symm⟩
             case measure => simp [intOf];omega
     · have HE:=Lh he
       have hX:=H.out.symm.trans (textS_eol hlt he)
       have hl1:=lineN_le (s.data.toList.drop k)
       have hl2:=lineN_pos s[k] (s.data.toList.drop (k + 1))
       rw [← drop_get s k hlt] at hl2
       simp only [List.length_drop,Array.length_toList] at hl1
       have hl3 : k + lineN (s.data.toList.drop k) ≤ s.size:=by have : s.data.size = s.size:=rfl;omega
       obtain ⟨m,hmm⟩ : ∃ m,lineN (s.data.toList.drop k) = m:=⟨_,rfl⟩
       have hend:=fun w => end_yes s a k hlt hm.out he w
       rw [hmm] at hX hl2 hl3 hend
       rw [show k - (a + 1) + m = k + m - (a + 1) by omega] at hX
       have HX:=Lh hX
       have HS:=Lh hend
       clear H he hX hl1 hmm hend
       go_wp2_with (first | (go_at_call 159;refine (HS.out _).mono ?_;rintro e w2 ⟨rfl,hb2⟩;replace hbld:=bldB_below hbld hb2;have hb3:=hb2.mono hBr;replace hbr:=hbr.trans hb3;clear hcr hfr hBr;have hBr:=Nat.le_trans hB1 hbr.size;obtain ⟨hcr,hfr⟩:=bcellB hbr;clear hb2 hb3) | (go_at_call 160;refine (bld_byte _ _ _ (by omega) (by omega) _ hbld (by omega) hBr).mono ?_;rintro e w3 ⟨rfl,hbld3,hb3⟩;replace hbld:=hbld3;replace hbr:=hbr.trans hb3;clear hcr hfr hBr;have hBr:=Nat.le_trans hB1 hbr.size;obtain ⟨hcr,hfr⟩:=bcellB hbr;clear hbld3 hb3))
       go_roundw
       case rel => exact ⟨k + m,acc ++ [10],o,by omega,by omega,by omega,by omega,by go_num,rfl,by simpa using hbld,by simp;omega,hbr,HX.out.symm⟩
       case measure => simp [intOf];omega
   · have HX:=Lh (show T = .bad 4 by have:=H.out;rw [List.drop_eq_nil_of_le (by simp;omega),textS_end] at this;exact this.symm)
     clear H
     go_wp2_with (go_at_call 121;refine (refused_in _ _).mono ?_;rintro e w3 ⟨rfl,hb3⟩;replace hb3:=hbr.trans (hb3.mono hBr);obtain ⟨hc3,hf3⟩:=bcellB hb3)
     refine bodyPost_ret (v:=.tuple #[.agg #[.int .i64 0,.int .i64 0,.int .i64 0,.int .i64 0,.string ⟨#[]⟩],.int .i64 4]) (by simp [results,Tryz.results126,go_sem,hc3,hf3,d0,d1,d2,d3,d4,df]) rfl ⟨by rw [HX.out];rfl,bel⟩
open Go.RowKit Fo
abbrev digs : L:=[48,49,50,51,52,53,54,55,56,57]
theorem digs_isDig (c : UInt8) : digs.contains c = isDig c:=by
 simpa using u8_all (fun c => digs.contains c == isDig c) (by decide +kernel) c
theorem sgn_sign (c : UInt8) : ([43,45] : L).contains c = sign c:=by
 simpa using u8_all (fun c => ([43,45] : L).contains c == sign c) (by decide +kernel) c
theorem dropWhile_nil_iff (p : UInt8 → Bool) (l : L) : l.dropWhile p = [] ↔ l.all p = true:=by
 induction l with
 | nil => simp
 | cons c l ih => by_cases h : p c <;> simp [List.dropWhile_cons,h,ih]
theorem trimS_nil_iff (l cs : L) : Lib.trimS l cs = [] ↔ l.all (cs.contains ·) = true:=by
 unfold Lib.trimS Lib.trimRightS Lib.trimLeftS
 rw [dropWhile_nil_iff,List.all_reverse]
 constructor
 · intro h
   rw [← List.all_reverse]
   have h2:=List.takeWhile_append_dropWhile (p:=fun x => cs.contains x) (l:=l.reverse)
   rw [← h2,List.all_append,h,Bool.and_true]
   exact List.all_takeWhile
 · intro h
   rw [← List.all_reverse] at h
   rw [(dropWhile_nil_iff _ _).2 h];rfl
theorem isInt_eq (l : L) : isInt l = (decide ((l.length : Int) - (l.dropWhile sign).length ≤ 1) && !(l.dropWhile sign).isEmpty && (l.dropWhile sign).all isDig):=by
 have hsd : ∀ c,sign c = true → isDig c = false:=fun c h => by
   have:=u8_all (fun c => !sign c || !isDig c) (by decide +kernel) c
   simp [h] at this;exact this
 cases l with
 | nil => simp [isInt,unsigned]
 | cons c l =>
   by_cases h : sign c
   · simp only [isInt,unsigned,h,if_true,List.dropWhile_cons,allDig]
     have hle:=(List.dropWhile_sublist sign (l:=l)).length_le
     by_cases h2 : (l.dropWhile sign).length = l.length
     · have : l.dropWhile sign = l := by
         have:=List.dropWhile_suffix sign (l:=l)
         exact this.eq_of_length h2
       rw [this];simp [show (l.length : Int) + 1 - l.length ≤ 1 by omega]
     · cases l with
       | nil => simp at h2
       | cons d l =>
         by_cases hd : sign d
         · have h3:=hsd d hd
           have hle2:=(List.dropWhile_sublist sign (l:=l)).length_le
           simp [h3,hd,List.dropWhile_cons];omega
         · simp [List.dropWhile_cons,hd] at h2
   · simp [isInt,unsigned,h,List.dropWhile_cons,allDig]
def clsOf (l : L) : Int:=if isInt l then 1 else if l.contains 46 then 2 else 0
theorem trimL_as (s : ByteArray) (d : L) (h : s.data.toList.dropWhile sign = d) (w : World) :
   Calls Tryz.prog 198 #[.string s,.string ⟨#[43,45]⟩] w fun e w' => e = .returned (.string ⟨d.toArray⟩) ∧ Below w.heap.size w w':=by
 have:=Tryz.strings_TrimLeft_cut s ⟨#[43,45]⟩ w (by decide) (ascii_of_all (by decide))
 rw [show Lib.trimLeftS s.data.toList (ByteArray.mk #[43,45]).data.toList = d by
   rw [← h];unfold Lib.trimLeftS;congr 1;funext c;exact sgn_sign c] at this
 exact this
theorem trim_as (d : L) (hd : d.length ≤ 140737488355327) (t : L) (h : Lib.trimS d digs = t) (w : World) :
   Calls Tryz.prog 199 #[.string ⟨d.toArray⟩,.string ⟨#[48,49,50,51,52,53,54,55,56,57]⟩] w fun e w' => e = .returned (.string ⟨t.toArray⟩) ∧ Below w.heap.size w w':=by
 have:=Tryz.strings_Trim_cut ⟨d.toArray⟩ ⟨#[48,49,50,51,52,53,54,55,56,57]⟩ w (by simp [ByteArray.size];omega) (by decide) (ascii_of_all (by decide))
 rw [show Lib.trimS (ByteArray.mk d.toArray).data.toList (ByteArray.mk #[48,49,50,51,52,53,54,55,56,57]).data.toList = t from h] at this
 exact this
theorem ix_mem (l : L) (c : UInt8) : 0 ≤ Lib.indexByte l c ↔ l.contains c = true:=by
 rw [Lib.contains_iff_indexByte];simp
theorem contains_as (s : ByteArray) (b : Bool) (h : s.data.toList.contains 46 = b) (w : World) :
   Calls Tryz.prog 200 #[.string s,.string ⟨#[46]⟩] w fun e w' => e = .returned (.bool b) ∧ w' = w:=by
 have:=Tryz.strings_Contains_one s 46 w
 rw [show decide (0 ≤ Lib.indexByte s.data.toList 46) = b from ?_] at this
 · exact this
 · rw [← h,Bool.eq_iff_iff]
   simp only [decide_eq_true_eq]
   exact ix_mem _ _
theorem class_in (s : ByteArray) (hs : s.size ≤ 140737488355327) (w : World) :
   Calls Tryz.prog 164 #[.string s] w fun e w' => e = .returned (.int .i64 (clsOf s.data.toList)) ∧ Below w.heap.size w w':=by
 obtain ⟨d,hd⟩ : ∃ d,s.data.toList.dropWhile sign = d:=⟨_,rfl⟩
 obtain ⟨t,ht⟩ : ∃ t,Lib.trimS d digs = t:=⟨_,rfl⟩
 obtain ⟨b,hb⟩ : ∃ b,s.data.toList.contains 46 = b:=⟨_,rfl⟩
 have hdl : d.length ≤ s.size:=by
   rw [← hd];exact (List.dropWhile_sublist sign (l:=s.data.toList)).length_le
 have hc : clsOf s.data.toList = if (decide ((s.size : Int) - d.length ≤ 1) && !d.isEmpty && t.isEmpty) then 1 else if b then 2 else 0:=by
   unfold clsOf
   rw [isInt_eq,hd,hb,← ht]
   have : (Lib.trimS d digs).isEmpty = d.all isDig:=by
     rw [Bool.eq_iff_iff,List.isEmpty_iff,trimS_nil_iff]
     simp only [digs_isDig]
   rw [this];rfl
 obtain ⟨R,hR⟩ : ∃ R,clsOf s.data.toList = R:=⟨_,rfl⟩
 rw [hR];rw [hR] at hc
 have HR:=Lh hc
 clear hR
 have HD:=Lh hd
 have HT:=Lh ht
 have HB:=Lh hb
 clear hd ht hb hc
 go_enter Tryz.func164,Tryz.ntmps164
 go_wp2_with (first | (go_at_call 198;refine (trimL_as _ d HD.out _).mono ?_;rintro e w1 ⟨rfl,hb1⟩;have hz1:=hb1.size) | (go_at_call 199;refine (trim_as d (by omega) t HT.out _).mono ?_;rintro e w2 ⟨rfl,hb2⟩) | (go_at_call 200;refine (contains_as _ b HB.out _).mono ?_;rintro e w3 ⟨rfl,rfl⟩))
 all_goals go_ret
 all_goals exact ⟨ret_int (by rw [HR.out];cases hd0 : d.isEmpty <;> cases ht0 : t.isEmpty <;> simp_all),bel⟩
open Go.RowKit Fo
theorem val_snoc (l : L) (c : UInt8) : val (l ++ [c]) = 10 * val l + (c.toNat - 48):=by simp [val,List.foldl_append]
theorem isInt_parts {l : L} (h : isInt l = true) : l.dropWhile sign = unsigned l ∧ (unsigned l).all isDig = true ∧ unsigned l ≠ [] ∧ l ≠ []:=by
 have hsd : ∀ c,isDig c = true → sign c = false:=fun c h => by
   have:=u8_all (fun c => !sign c || !isDig c) (by decide +kernel) c
   simp [h] at this;exact this
 unfold isInt allDig at h
 simp only [Bool.and_eq_true,Bool.not_eq_true',List.isEmpty_eq_false_iff] at h
 refine ⟨?_,h.2,h.1,?_⟩
 · cases l with
   | nil => rfl
   | cons c l =>
     by_cases hc : sign c
     · simp only [unsigned,hc,if_true,List.dropWhile_cons] at *
       cases l with
       | nil => rfl
       | cons d l =>
         have:=h.2
         simp only [List.all_cons,Bool.and_eq_true] at this
         simp [List.dropWhile_cons,hsd d this.1]
     · simp [unsigned,hc,List.dropWhile_cons]
 · rintro rfl;simp [unsigned] at h
def intR : Res Int → Value
 | .bad e => .tuple #[.int .i64 0,.int .i64 e]
 | .good n => .tuple #[.int .i64 n,.int .i64 0]
theorem take_snoc' (l : L) (k : Nat) (h : k < l.length) : l.take (k + 1) = l.take k ++ [l[k]]:=by
 rw [List.take_succ_eq_append_getElem h]
theorem dig_bounds {c : UInt8} (h : isDig c = true) : 48 ≤ c.toNat ∧ c.toNat ≤ 57:=by
 unfold isDig at h;simpa [UInt8.le_iff_toNat_le] using h
theorem whole_in (s : ByteArray) (hs : s.size ≤ 140737488355327) (h : isInt s.data.toList = true) (w : World) :
   Calls Tryz.prog 165 #[.string s] w fun e w' => e = .returned (intR (wholeV s.data.toList)) ∧ Below w.heap.size w w':=by
 obtain ⟨h1,h2,h3,h4⟩:=isInt_parts h
 obtain ⟨d,hd⟩ : ∃ d,unsigned s.data.toList = d:=⟨_,rfl⟩
 rw [hd] at h1 h2 h3
 have hdl : d.length ≤ s.size:=by
   rw [← h1];exact (List.dropWhile_sublist sign (l:=s.data.toList)).length_le
 have hs0 : 0 < s.size:=List.length_pos_iff.2 h4
 have hsz : (ByteArray.mk d.toArray).size = d.length:=by simp [ByteArray.size]
 obtain ⟨R,hR⟩ : ∃ R,wholeV s.data.toList = R:=⟨_,rfl⟩
 rw [hR]
 unfold wholeV at hR
 rw [hd] at hR
 have HR:=Lh hR
 have HD:=Lh h1
 have HS:=Lh hsz
 have hdig : ∀ k (hk : k < d.length),48 ≤ d[k].toNat ∧ d[k].toNat ≤ 57:=fun k hk => dig_bounds (List.all_eq_true.1 h2 _ (List.getElem_mem hk))
 have HG:=Lh hdig
 have hmin : Hid (minus s.data.toList = (s[0] == 45)):=by
   unfold minus
   have:=drop_get s 0 hs0
   rw [List.drop_zero] at this
   show _ = _
   rw [this];simp
 clear hR hd h1 h2 h3 h4 h hsz hdig
 go_enter Tryz.func165,Tryz.ntmps165
 go_wp2_with (go_at_call 198;refine (trimL_as _ d HD.out _).mono ?_;rintro e w1 ⟨rfl,hb⟩;have hz1:=hb.size)
 go_loopw [4] (fun n wr => ∃ (k v : Nat),k ≤ d.length ∧ v ≤ 2147483648 ∧ n = .int .i64 v ∧ Hid (v = min (val (d.take k)) 2147483648) ∧ wr = w1.iter ⟨d.toArray⟩ k) (fun _ wr => d.length - wr.iterPos w1.heap.size)
 case atStart => exact ⟨0,0,by omega,by omega,rfl,by show _ = _;simp [val],rfl⟩
 case round =>
   obtain ⟨k,v,hk,hv,rfl,HV,rfl⟩:=hrel
   by_cases hp : k < d.length
   · have hp2 : k < (ByteArray.mk d.toArray).size:=by rw [HS.out];exact hp
     have hg:=HG.out k hp
     have hbk : (ByteArray.mk d.toArray)[k] = d[k]:=rfl
     have hnx : ∀ ty,(Instr.next (.pointer (some ⟨w1.heap.size,0,none⟩)) true ty).run Tryz.prog (w1.iter ⟨d.toArray⟩ k) = .ok (.tuple #[.bool true,.int .i64 k,.int .i32 d[k].toNat]) (w1.iter ⟨d.toArray⟩ (k + 1)):=fun ty => run_next_ascii w1 _ k ty hp2 (by rw [hbk];omega)
     have HV2:=Lh (show min (10 * v + (d[k].toNat - 48)) 2147483648 = min (val (d.take (k + 1))) 2147483648 by
       rw [take_snoc' d k hp,val_snoc,HV.out];omega)
     clear hbk
     go_wp2
     go_roundw
     case rel => exact ⟨k + 1,min (10 * v + (d[k].toNat - 48)) 2147483648,by omega,by omega,by congr 1;omega,HV2.out,rfl⟩
     case measure => simp;omega
   · have hk2 : k = d.length:=by omega
     subst hk2
     have hnx : ∀ ty,(Instr.next (.pointer (some ⟨w1.heap.size,0,none⟩)) true ty).run Tryz.prog (w1.iter ⟨d.toArray⟩ d.length) = .ok (.tuple #[.bool false]) (w1.iter ⟨d.toArray⟩ d.length):=fun ty => run_next_end w1 _ _ ty (by rw [HS.out];omega)
     have hV:=HV.out
     rw [List.take_length] at hV
     clear HV
     by_cases hbig : 2147483647 < v
     · have HX:=Lh (show R = .bad 2 by rw [← HR.out,if_pos (by omega)])
       clear hV
       go_wp2
       go_ret2
       exact ⟨by rw [HX.out];rfl,bel⟩
     · have hX:=HR.out
       rw [if_neg (by omega),hmin.out] at hX
       have HV:=Lh (show val d = v by omega)
       clear hV
       by_cases h45 : s[0] = 45
       · have t1 : ((s[0].toNat : Int) == 45) = true:=eq_yes (n:=45) (by decide) h45
         have HX:=Lh (show R = .good (-(v : Int)) by rw [← hX,h45,HV.out];rfl)
         clear hX h45
         go_wp2
         go_ret2
         exact ⟨by rw [HX.out];rfl,bel⟩
       · have t1 : ((s[0].toNat : Int) == 45) = false:=eq_no (n:=45) (by decide) h45
         have HX:=Lh (show R = .good (v : Int) by rw [← hX,HV.out];simp [h45])
         clear hX h45
         go_wp2
         go_ret2
         exact ⟨by rw [HX.out];rfl,bel⟩
open Go.RowKit Fo
theorem fface_idle (p q : Addr) (w : World) :
   CallsD Tryz.prog 201 #[.pointer (some p),.pointer (some q)] .returning w fun e u' w' => e = .returned (.tuple #[]) ∧ u' = .returning ∧ w' = w:=by
 refine callsD_of_wpS Tryz.func201 rfl fun c₀ cs hu => ?_
 simp only [Tryz.ntmps201,List.size_toArray,List.length_cons,List.length_nil,Nat.reduceAdd,Nat.reduceSub,Array.replicate_succ,Array.replicate_zero,List.push_toArray,List.append_toArray,List.nil_append,List.cons_append]
 apply wpS_seq
 apply wpS_region
 simp [wpOpsS,go_sem,recoverD,hu,Tryz.ntmps201,Exit.thenS]
 refine wpS_of_wp ?_
 go_wp2
 cases c₀
 simp_all [bodyPostS,results,Tryz.results201]
theorem fface_catch (p q : Addr) (x : Int) (older : List PanicEntry) (w : World) (v0 v1 : Int) (c0 : w.cell? p = some (.int .i64 v0)) (f0 : w.frozen? p = false) (c1 : w.cell? q = some (.int .i64 v1)) (f1 : w.frozen? q = false) (hne : p ≠ q) :
   CallsD Tryz.prog 201 #[.pointer (some p),.pointer (some q)] (.panicking ({ v:=.iface 296 (.int .i64 x),recovered:=false } :: older)) w fun e u' w' =>
     e = .returned (.tuple #[]) ∧ u' = .panicking ({ v:=.iface 296 (.int .i64 x),recovered:=true } :: older) ∧ w' = (w.setCell p (.int .i64 0)).setCell q (.int .i64 x):=by
 have hta : ∀ (x : Int) (w : World),(Instr.typeAssert (.iface 296 (.int .i64 x)) 20 296 true).run Tryz.prog w = .ok (.tuple #[.int .i64 x,.bool true]) w:=fun _ _ => by kernel_rfl
 refine callsD_of_wpS Tryz.func201 rfl fun c₀ cs hu => ?_
 simp only [Tryz.ntmps201,List.size_toArray,List.length_cons,List.length_nil,Nat.reduceAdd,Nat.reduceSub,Array.replicate_succ,Array.replicate_zero,List.push_toArray,List.append_toArray,List.nil_append,List.cons_append]
 apply wpS_seq
 apply wpS_region
 simp [wpOpsS,go_sem,recoverD,hu,Tryz.ntmps201,Exit.thenS]
 refine wpS_of_wp ?_
 go_wp2
 cases c₀
 simp_all [bodyPostS,results,Tryz.results201]
open Go.RowKit Fo
def MaxW (w : World) (m : Int) : Prop:=w.cell? ⟨1,0,none⟩ = some (.int .i64 m)
theorem MaxW.lt {w : World} {m : Int} (h : MaxW w m) : 1 < w.heap.size:=by
 unfold MaxW World.cell? at h
 rcases Nat.lt_or_ge 1 w.heap.size with h0 | h0
 · exact h0
 · rw [Array.getElem?_eq_none h0] at h;simp at h
theorem MaxW.below {w w' : World} {m : Int} (h : MaxW w m) (hb : Below w.heap.size w w') : MaxW w' m:=by
 unfold MaxW at *;rw [hb.cell (p:=⟨1,0,none⟩) (MaxW.lt h)];exact h
theorem MaxW.belowB {B : Nat} {w w' : World} {m : Int} (h : MaxW w m) (hb : Below B w w') (hB : 1 < B) : MaxW w' m:=by
 unfold MaxW at *;rw [hb.cell (p:=⟨1,0,none⟩) hB];exact h
theorem digits_in (d : L) (hd : d.length ≤ 140737488355327) (b : Bool) (hb : allDig d = b) (w : World) :
   Calls Tryz.prog 203 #[.string ⟨d.toArray⟩] w fun e w' => e = .returned (.bool b) ∧ Below w.heap.size w w':=by
 obtain ⟨t,ht⟩ : ∃ t,Lib.trimS d digs = t:=⟨_,rfl⟩
 have htb : Hid (t.isEmpty = b):=by
   show _ = _
   rw [← hb,Bool.eq_iff_iff,List.isEmpty_iff,← ht,trimS_nil_iff]
   simp only [digs_isDig,allDig]
 have HT:=Lh ht
 clear ht hb
 go_enter Tryz.func203,Tryz.ntmps203
 go_wp2_with (go_at_call 199;refine (trim_as d hd t HT.out _).mono ?_;rintro e w2 ⟨rfl,hb2⟩)
 go_ret
 exact ⟨ret_bool (by rw [← htb.out]),bel⟩
theorem bwithin_in (n : Int) (h0 : -9223372036854775808 ≤ n) (h1 : n ≤ 9223372036854775807) (b : Bool) (hb : (decide (-1073741824 ≤ n) && decide (n ≤ 1073741824)) = b) (w : World) :
   Calls Tryz.prog 246 #[.int .i64 n] w fun e w' => e = .returned (.bool b) ∧ w' = w:=by
 have HB:=Lh hb
 clear hb
 go_enter Tryz.func246,Tryz.ntmps246
 go_wp2
 all_goals go_ret
 all_goals exact ⟨ret_bool (by rw [← HB.out];first | (simp_all;done) | (simp;omega)),rfl⟩
theorem bounded_good (b : Nat) (n : Int) (w : World) (hc : w.cell? ⟨b, 0, none⟩ = some (.int .i64 n)) (h0 : -1073741824 ≤ n) (h1 : n ≤ 1073741824) :
   Calls Tryz.prog 205 #[.slice (some ⟨b,0,none⟩) 1 1] w fun e w' => e = .returned (.tuple #[]) ∧ w' = w:=by
 go_enter Tryz.func205,Tryz.ntmps205
 go_wp2
 refine wp_loop_rounds 2 ?_
 rw [rounds_succ]
 go_wp2_with (go_at_call 246;refine (bwithin_in n (by omega) (by omega) true (by simp;omega) _).mono ?_;rintro e w2 ⟨rfl,rfl⟩)
 rw [rounds_succ]
 go_wp2
 go_end0
 exact ⟨rfl,rfl⟩
theorem bounded_bad (b : Nat) (n : Int) (w : World) (hc : w.cell? ⟨b, 0, none⟩ = some (.int .i64 n)) (h0 : -9223372036854775808 ≤ n) (h1 : n ≤ 9223372036854775807) (h : n < -1073741824 ∨ 1073741824 < n) :
   Calls Tryz.prog 205 #[.slice (some ⟨b,0,none⟩) 1 1] w fun e w' => e = .panicked [{ v:=.iface 296 (.int .i64 2),recovered:=false }] ∧ w' = w:=by
 have hb : Hid ((decide (-1073741824 ≤ n) && decide (n ≤ 1073741824)) = false):=by show _ = _;simp;omega
 clear h
 go_enter Tryz.func205,Tryz.ntmps205
 go_wp2
 refine wp_loop_rounds 1 ?_
 rw [rounds_succ]
 go_wp2_with (go_at_call 246;refine (bwithin_in n (by omega) (by omega) false hb.out _).mono ?_;rintro e w2 ⟨rfl,rfl⟩)
 exact ⟨rfl,rfl,rfl⟩
open Go.RowKit Fo
theorem index_dot (l : L) : (0 ≤ Lib.index l [46] → (l.take (Lib.index l [46]).toNat = preDot l ∧ l.drop ((Lib.index l [46]).toNat + 1) = postDot l)) ∧ (¬ 0 ≤ Lib.index l [46] → preDot l = l ∧ postDot l = []):=by
 rw [Lib.index_one]
 induction l with
 | nil => simp [Lib.indexByte,preDot,postDot]
 | cons c l ih =>
   by_cases h : c = 46
   · subst h;simp [Lib.indexByte,preDot,postDot]
   · have hb : (c == 46) = false:=by simpa using h
     have hn : (c != 46) = true:=by simpa using h
     have hge:=Lib.indexByte_ge l 46
     simp only [Lib.indexByte,hb,Bool.false_eq_true,if_false]
     by_cases h1 : Lib.indexByte l 46 = -1
     · simp only [h1,beq_self_eq_true,if_true]
       have:=ih.2 (by omega)
       simp only [preDot,postDot] at *
       rw [List.takeWhile_cons,List.dropWhile_cons,if_pos hn,if_pos hn,this.1,this.2];simp
     · have h2 : (Lib.indexByte l 46 == -1) = false:=by simpa using h1
       simp only [h2,Bool.false_eq_true,if_false]
       have:=ih.1 (by omega)
       refine ⟨fun _ => ?_,fun hx => absurd (by omega) hx⟩
       rw [show (Lib.indexByte l 46 + 1).toNat = (Lib.indexByte l 46).toNat + 1 by omega]
       simp only [preDot,postDot] at *
       rw [List.takeWhile_cons,List.dropWhile_cons,if_pos hn,if_pos hn,List.take_succ_cons,List.drop_succ_cons,this.1,this.2]
       simp
theorem cut_dot (l : L) : (Lib.cut l [46]).1 = preDot l ∧ (Lib.cut l [46]).2.1 = postDot l:=by
 unfold Lib.cut
 have:=index_dot l
 by_cases h : 0 ≤ Lib.index l [46]
 · rw [if_pos h];exact this.1 h
 · rw [if_neg h];exact ⟨(this.2 h).1.symm,(this.2 h).2.symm⟩
theorem cutdot_in (s : ByteArray) (a b : L) (ha : preDot s.data.toList = a) (hb : postDot s.data.toList = b) (hs : s.size ≤ 40) (m : Int) (w : World) (hm : MaxW w m) :
   Calls Tryz.prog 202 #[.string s,.string ⟨#[46]⟩] w fun e w' => ∃ f,e = .returned (.tuple #[.string ⟨a.toArray⟩,.string ⟨b.toArray⟩,.bool f]) ∧ ∃ n,w' = w.drewN n:=by
 have:=Tryz.strings_Cut s ⟨#[46]⟩ m w (by omega) hm
 rw [show (ByteArray.mk #[46]).data.toList = [46] from rfl,(cut_dot _).1,(cut_dot _).2,ha,hb] at this
 exact this.mono fun e w' ⟨h1,h2⟩ => ⟨_,h1,h2⟩
theorem val_append (a b : L) : val (a ++ b) = val a * 10 ^ b.length + val b:=by
 have key : ∀ (b : L) (v : Nat),b.foldl (fun v c => 10 * v + (c.toNat - 48)) v = v * 10 ^ b.length + b.foldl (fun v c => 10 * v + (c.toNat - 48)) 0:=by
   intro b
   induction b with
   | nil => simp
   | cons c b ih =>
     intro v
     simp only [List.foldl_cons,List.length_cons]
     rw [ih,ih (10 * 0 + (c.toNat - 48)),Nat.pow_succ]
     generalize c.toNat - 48 = d
     generalize 10 ^ b.length = x
     generalize b.foldl (fun v c => 10 * v + (c.toNat - 48)) 0 = r
     have : (10 * v + d) * x = v * (x * 10) + (10 * 0 + d) * x:=by
       rw [Nat.mul_zero,Nat.zero_add,Nat.add_mul,Nat.mul_comm x 10,← Nat.mul_assoc,Nat.mul_comm v 10]
     omega
 unfold val
 rw [List.foldl_append,key]
theorem val_le_append (a b : L) : val a ≤ val (a ++ b):=by
 rw [val_append];exact Nat.le_trans (Nat.le_mul_of_pos_right _ (Nat.pow_pos (by decide))) (Nat.le_add_right _ _)
def rest (b : L) : L:=Lib.trimRightS ((b ++ [48,48,48,48,48]).drop 4) [48]
theorem trimR_all (l : L) (h : ∀ c ∈ l,c = 48) : Lib.trimRightS l [48] = []:=by
 unfold Lib.trimRightS
 rw [(dropWhile_nil_iff _ _).2 (by rw [List.all_reverse];simpa using h)];rfl
theorem trimR_append (l z : L) (h : ∀ c ∈ z,c = 48) : Lib.trimRightS (l ++ z) [48] = Lib.trimRightS l [48]:=by
 unfold Lib.trimRightS
 rw [List.reverse_append,List.dropWhile_append_of_pos (by intro c hc;simpa using h c (by simpa using hc))]
theorem rest_eq (b : L) : rest b = Lib.trimRightS (b.drop 4) [48]:=by
 unfold rest
 rw [List.drop_append]
 exact trimR_append _ _ (fun c hc => by
   have:=List.mem_of_mem_drop hc;simp at this;exact this)
theorem part4_eq (b : L) : (b ++ [48,48,48,48,48]).take 4 = part4 b:=by
 unfold part4
 rw [show ([48,48,48,48,48] : L) = [48,48,48,48] ++ [48] from rfl,← List.append_assoc]
 rw [List.take_append_of_le_length (by simp)]
theorem trimR_cons (c : UInt8) (r : L) : Lib.trimRightS (c :: r) [48] = if (c :: r).all (· == 48) then [] else c :: Lib.trimRightS r [48]:=by
 by_cases h : (c :: r).all (· == 48)
 · rw [if_pos h];exact trimR_all _ (fun d hd => by have:=List.all_eq_true.1 h d hd;simpa using this)
 · rw [if_neg h]
   unfold Lib.trimRightS
   rw [List.reverse_cons]
   by_cases hr : r.all (· == 48)
   · have hc : ¬ c = 48:=by intro hc;apply h;simp [hc];simpa using hr
     have h0 : r.reverse.dropWhile (([48] : L).contains ·) = []:=by
       rw [dropWhile_nil_iff,List.all_reverse]
       rw [List.all_eq_true] at *
       intro d hd;have:=hr d hd;simp at this;simp [this]
     rw [List.dropWhile_append_of_pos (by
       intro d hd
       have:=List.all_eq_true.1 hr d (by simpa using hd)
       simp at this;simp [this]),h0]
     simp [List.dropWhile_cons,hc]
   · have h0 : r.reverse.dropWhile (([48] : L).contains ·) ≠ [] := by
       intro h0
       rw [dropWhile_nil_iff,List.all_reverse] at h0
       apply hr
       rw [List.all_eq_true] at *
       intro d hd;have:=h0 d hd;simpa using this
     rw [List.dropWhile_append]
     simp only [List.isEmpty_iff,h0,if_false]
     simp
theorem bytesLess_five (c : UInt8) (r : L) : Op.bytesLess (c :: r) [53] = decide (c < 53):=by
 simp only [Op.bytesLess]
 by_cases h : c < 53
 · simp [h]
 · by_cases h2 : c = 53
   · subst h2;cases r <;> simp [Op.bytesLess]
   · simp [h,h2]
theorem cmp_ge (b : L) (h : b.all isDig = true) : (!Op.bytesLess (rest b) [53]) = atHalf (b.drop 4):=by
 rw [rest_eq]
 have hd : (b.drop 4).all isDig = true:=by
   rw [List.all_eq_true] at *;intro c hc;exact h c (List.mem_of_mem_drop hc)
 cases hb : b.drop 4 with
 | nil => simp [Lib.trimRightS,Op.bytesLess,atHalf]
 | cons c r =>
   rw [trimR_cons]
   split
   · rename_i h2
     simp at h2
     simp [Op.bytesLess,atHalf,h2.1]
   · rw [bytesLess_five,Bool.eq_iff_iff];simp [atHalf,UInt8.lt_iff_toNat_lt,UInt8.le_iff_toNat_le]
theorem cmp_gt (b : L) (h : b.all isDig = true) : (!(Op.bytesLess (rest b) [53] || rest b == [53])) = overHalf (b.drop 4):=by
 rw [rest_eq]
 cases hb : b.drop 4 with
 | nil => simp [Lib.trimRightS,Op.bytesLess,overHalf]
 | cons c r =>
   rw [trimR_cons]
   split
   · rename_i h2
     simp at h2
     have : r.any (· != 48) = false:=by rw [List.any_eq_false];intro d hd;simp [h2.2 d hd]
     simp [Op.bytesLess,overHalf,h2.1]
   · rw [bytesLess_five]
     have key : (Lib.trimRightS r [48] == []) = !(r.any (· != 48)):=by
       rw [Bool.eq_iff_iff]
       unfold Lib.trimRightS
       simp only [beq_iff_eq,List.reverse_eq_nil_iff,dropWhile_nil_iff,List.all_reverse]
       simp
     have e : (c :: Lib.trimRightS r [48] == [53]) = (c == 53 && (Lib.trimRightS r [48] == [])):=rfl
     rw [e,key]
     simp only [overHalf]
     by_cases h1 : c < 53
     · have : ¬ (53 : UInt8) < c:=by simp [UInt8.lt_iff_toNat_lt] at *;omega
       have h3 : (c == 53) = false:=by simp;rintro rfl;simp at h1
       simp [h1,this,h3]
     · by_cases h2 : c = 53
       · subst h2;simp
       · have : (53 : UInt8) < c := by
           simp [UInt8.lt_iff_toNat_lt] at *
           have : c.toNat ≠ 53:=fun h => h2 (UInt8.toNat_inj.1 h)
           omega
         simp [h1,this,h2]
end Go.Proofs.YtinafodpgjbedaaGreatDoor
